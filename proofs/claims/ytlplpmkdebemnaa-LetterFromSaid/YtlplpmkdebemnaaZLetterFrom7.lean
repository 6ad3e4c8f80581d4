/- Walks by facts, part 7: what the functions that the law reaches answer. No conditions but lengths. -/
import Derived.Test.YtlplpmkdebemnaaZLetterFrom6
import Derived.Test.YtlplpmkdebemnaaProg
namespace Go.Proofs.Ytlplpmkdebemnaa
set_option linter.unusedVariables false
set_option linter.unusedSimpArgs false
open Bv Fw
/-- Zeros up to a multiple of sixteen bytes. -/
def z16 (xs : List (BitVec 8)) : List (BitVec 8) := List.replicate ((16 - xs.length % 16) % 16) 0#8
theorem z16_def (xs : List (BitVec 8)) (n : Nat) (h : xs.length = n) : List.replicate ((16 - n % 16) % 16) 0#8 = z16 xs := by subst h; rfl
def lens8 (a c : List (BitVec 8)) : List (BitVec 8) := lowb (BitVec.ofNat 64 a.length) 8 ++ lowb (BitVec.ofNat 64 c.length) 8
/-- What is tagged, part by part. -/
def pdc (a c : List (BitVec 8)) : Nat → List (BitVec 8)
  | 0 => a
  | 1 => z16 a
  | 2 => c
  | 3 => z16 c
  | _ => lens8 a c
def pdcat (a c : List (BitVec 8)) : Nat → List (BitVec 8)
  | 0 => []
  | k + 1 => pdcat a c k ++ pdc a c k
theorem pdcat_zero (a c : List (BitVec 8)) : pdcat a c 0 = [] := rfl
theorem pd_next {Q : List Pt} {a c : List (BitVec 8)} {B : Option Addr} {m d k : Nat} (h : catp Q = pdcat a c k) : catp (Q ++ [Pt.mk B m d (pdc a c k)]) = pdcat a c (k + 1) := by
  rw [pdcat, ← h]; simp [catp]
theorem pdc0 (a c : List (BitVec 8)) : pdc a c 0 = a := rfl
theorem pdc1 (a c : List (BitVec 8)) (n : Nat) (h : a.length = n) : pdc a c 1 = List.replicate ((16 - n % 16) % 16) 0#8 := by subst h; rfl
theorem pdc2 (a c : List (BitVec 8)) : pdc a c 2 = c := rfl
theorem pdc3 (a c : List (BitVec 8)) (n : Nat) (h : c.length = n) : pdc a c 3 = List.replicate ((16 - n % 16) % 16) 0#8 := by subst h; rfl
theorem pdc4 (a c : List (BitVec 8)) (n m : Nat) (h : a.length = n) (h2 : c.length = m) : pdc a c 4 = ([] ++ lowb (BitVec.ofNat 64 n) 8) ++ lowb (BitVec.ofNat 64 m) 8 := by subst h; subst h2; rfl
def atext (a c : List (BitVec 8)) : List (BitVec 8) := ((a ++ z16 a) ++ (c ++ z16 c)) ++ lens8 a c
theorem atext_def (a c : List (BitVec 8)) : ((a ++ z16 a) ++ (c ++ z16 c)) ++ lens8 a c = atext a c := rfl
theorem pdcat_all (a c : List (BitVec 8)) : pdcat a c 5 = atext a c := by
  have e : pdcat a c 5 = ((((([] ++ a) ++ z16 a) ++ c) ++ z16 c) ++ lens8 a c) := rfl
  rw [e]; unfold atext; simp
theorem z16_le (xs : List (BitVec 8)) : (z16 xs).length ≤ 15 := by unfold z16; rw [List.length_replicate]; omega
theorem lens8_len (a c : List (BitVec 8)) : (lens8 a c).length = 16 := by unfold lens8; rw [List.length_append, lowb_len, lowb_len]
theorem atext_le (a c : List (BitVec 8)) : (atext a c).length ≤ a.length + c.length + 46 := by
  unfold atext
  have h1 := z16_le a
  have h2 := z16_le c
  simp only [List.length_append, lens8_len]
  omega
/-- The tag of what stands beside and of what was turned. -/
def atag (key nonce a c : List (BitVec 8)) : List (BitVec 8) := ptag (List.take 32 (cblock key 0#32 nonce)) (atext a c)
theorem atag_def (key nonce a c : List (BitVec 8)) : ptag (List.take 32 (cblock key 0#32 nonce)) (atext a c) = atag key nonce a c := rfl
theorem atag_len (key nonce a c : List (BitVec 8)) : (atag key nonce a c).length = 16 := ptag_len _ _
/-- Sealed bytes. -/
def aseal (key nonce a p : List (BitVec 8)) : List (BitVec 8) := cxor key nonce 1#32 p ++ atag key nonce a (cxor key nonce 1#32 p)
theorem aseal_def (key nonce a p : List (BitVec 8)) : cxor key nonce 1#32 p ++ atag key nonce a (cxor key nonce 1#32 p) = aseal key nonce a p := rfl
theorem aseal_len (key nonce a p : List (BitVec 8)) : (aseal key nonce a p).length = p.length + 16 := by
  unfold aseal; rw [List.length_append, cxor_len, atag_len]
/-- Is the tag right? -/
def agood (key nonce a s : List (BitVec 8)) : Prop := atag key nonce a (List.take (s.length - 16) s) = List.drop (s.length - 16) s
instance (key nonce a s : List (BitVec 8)) : Decidable (agood key nonce a s) := by unfold agood; exact inferInstance
theorem agood_iff (key nonce a s : List (BitVec 8)) (n : Nat) (h : s.length = n) : agood key nonce a s ↔ atag key nonce a (List.take (n - 16) s) = List.drop (n - 16) s := by subst h; exact Iff.rfl
def aplain (key nonce s : List (BitVec 8)) : List (BitVec 8) := cxor key nonce 1#32 (List.take (s.length - 16) s)
theorem aplain_def (key nonce s : List (BitVec 8)) (n : Nat) (h : s.length = n) : cxor key nonce 1#32 (List.take (n - 16) s) = aplain key nonce s := by subst h; rfl
theorem aplain_len (key nonce s : List (BitVec 8)) : (aplain key nonce s).length = s.length - 16 := by
  unfold aplain; rw [cxor_len, List.length_take]; omega
theorem aseal_take (key nonce a p : List (BitVec 8)) : List.take ((aseal key nonce a p).length - 16) (aseal key nonce a p) = cxor key nonce 1#32 p := by
  rw [aseal_len, Nat.add_sub_cancel]; unfold aseal
  rw [List.take_append_of_le_length (by rw [cxor_len]; omega), List.take_of_length_le (by rw [cxor_len]; omega)]
theorem aseal_drop (key nonce a p : List (BitVec 8)) : List.drop ((aseal key nonce a p).length - 16) (aseal key nonce a p) = atag key nonce a (cxor key nonce 1#32 p) := by
  rw [aseal_len, Nat.add_sub_cancel]; unfold aseal
  rw [List.drop_append_of_le_length (by rw [cxor_len]; omega), List.drop_of_length_le (by rw [cxor_len]; omega), List.nil_append]
/-- What is sealed is opened. -/
theorem agood_seal (key nonce a p : List (BitVec 8)) : agood key nonce a (aseal key nonce a p) := by
  unfold agood; rw [aseal_take, aseal_drop]
theorem aplain_seal (key nonce a p : List (BitVec 8)) : aplain key nonce (aseal key nonce a p) = p := by
  unfold aplain; rw [aseal_take, cxor_cxor]
/-! Texts held against each other without branches. -/
def orx (xs ys : List (BitVec 8)) : Nat → BitVec 8
  | 0 => 0#8
  | k + 1 => orx xs ys k ||| (ath xs k ^^^ ath ys k)
theorem orx_zero (xs ys : List (BitVec 8)) : orx xs ys 0 = 0#8 := rfl
theorem orx_succ (xs ys : List (BitVec 8)) (k : Nat) : orx xs ys (k + 1) = orx xs ys k ||| (ath xs k ^^^ ath ys k) := rfl
theorem orx_iff (xs ys : List (BitVec 8)) : ∀ k, orx xs ys k = 0#8 ↔ ∀ j, j < k → ath xs j = ath ys j
  | 0 => ⟨fun _ j hj => by omega, fun _ => rfl⟩
  | k + 1 => by
    rw [orx, BitVec.or_eq_zero_iff, orx_iff xs ys k, BitVec.xor_eq_zero_iff]
    refine ⟨fun ⟨h1, h2⟩ j hj => ?_, fun h => ⟨fun j hj => h j (by omega), h k (by omega)⟩⟩
    by_cases e : j = k
    · subst e; exact h2
    · exact h1 j (by omega)
def eqw (xs ys : List (BitVec 8)) : BitVec 64 := if xs = ys then 1#64 else 0#64
theorem eqw_of (xs ys : List (BitVec 8)) (n : Nat) (hx : xs.length = n) (hy : ys.length = n) : CtPure.same ((orx xs ys n).setWidth 64) 0#64 = eqw xs ys := by
  rw [CtPure.same_eq]
  unfold eqw
  have h1 : ((orx xs ys n).setWidth 64 = 0#64) ↔ xs = ys := by
    have h2 : ((orx xs ys n).setWidth 64 = 0#64) ↔ orx xs ys n = 0#8 := by
      constructor
      · intro h
        apply BitVec.eq_of_toNat_eq
        have := congrArg BitVec.toNat h
        rw [BitVec.toNat_setWidth] at this
        have hl := (orx xs ys n).isLt
        have h0 : (0#64).toNat = 0 := rfl
        have h0' : (0#8).toNat = 0 := rfl
        rw [h0] at this
        rw [h0']
        omega
      · intro h; rw [h]; rfl
    rw [h2, orx_iff]
    exact ⟨fun h => ext_ath (by omega) (fun j hj => h j (by omega)), fun h j _ => by rw [h]⟩
  by_cases h : xs = ys
  · rw [if_pos h, if_pos (h1.2 h)]
  · rw [if_neg h, if_neg (fun e => h (h1.1 e))]
theorem eqw_yes {xs ys : List (BitVec 8)} (h : xs = ys) : (eqw xs ys == 0#64) = false := by unfold eqw; rw [if_pos h]; rfl
theorem eqw_no {xs ys : List (BitVec 8)} (h : ¬ xs = ys) : (eqw xs ys == 0#64) = true := by unfold eqw; rw [if_neg h]; rfl
attribute [irreducible] z16 lens8 pdc pdcat atext atag aseal agood aplain orx eqw
end Go.Proofs.Ytlplpmkdebemnaa
namespace Go.Proofs.Ytlplpmkdebemnaa
set_option linter.unusedVariables false
set_option linter.unusedSimpArgs false
set_option linter.unnecessarySimpa false
set_option maxRecDepth 100000
open Go.RowKit Bv Fw

set_option maxHeartbeats 4000000 in
theorem ctsame_f (x : BitVec 64) (y : BitVec 64) (w : World) (hO : HOK [] w)  : Calls Try.prog 83 [(b64 x), (b64 y)].toArray w (Ret (T := Unit) [] w (fun _ => True) (fun _ => (b64 (CtPure.same x y))) (fun _ => [])) := by
 have hF : Wid Fence.wide := wid_wide
 refine enter (c := _) Try.func83 rfl [] _ [] (by rw [Try.ntmps83]; rfl) (own_rds hO rfl) ?_
 rw [Try.ntmps83]
 refine T_re [(0, (b64 x)), (1, (b64 y))] (sc rfl (sc rfl sn)) ?_
 refine T_he [] [] ⟨by decide, rfl⟩ ?_
 refine Tsr hF rfl ?_
 refine la rfl rfl rfl rfl rfl ?_
 refine L_nil ?_
 refine Tsr hF rfl ?_
 refine lm rfl rfl rfl rfl rfl ?_
 refine lm rfl rfl rfl rfl rfl ?_
 refine lo rfl (pr_xor (ib_xor64 _ _) rfl rfl rfl) rfl rfl ?_
 refine la rfl rfl rfl rfl rfl ?_
 refine L_nil ?_
 refine Tsr hF rfl ?_
 refine lm rfl rfl rfl rfl rfl ?_
 refine lm rfl rfl rfl rfl rfl ?_
 refine lo rfl (pr_un (un_neg64 _) rfl rfl) rfl rfl ?_
 refine lo rfl (pr_or (ib_or64 _ _) rfl rfl rfl) rfl rfl ?_
 refine lo rfl (pr_shift (sh_shr64 ((x ^^^ y) ||| (-(x ^^^ y))) _ 63) rfl rfl rfl rfl) rfl rfl ?_
 refine lo rfl (pr_xor (ib_xor64 _ (1#64)) rfl rfl rfl) rfl rfl ?_
 refine la rfl rfl rfl rfl rfl ?_
 refine L_nil ?_
 refine T_ret ?_
 refine T_slot 4 (b64 ((((x ^^^ y) ||| (-(x ^^^ y))) >>> 63) ^^^ 1#64)) (b64 (CtPure.same x y)) rfl (by rfl) ?_
 exact T_fin () (by first | trivial | omega | (simp; done)) (res1 rfl rfl) [] ⟨by decide, rfl⟩ rfl
set_option maxHeartbeats 4000000 in
theorem ctequal_f (xs : List (BitVec 8)) (A : Option Addr) (n : Nat) (c : Nat) (ys : List (BitVec 8)) (B : Option Addr) (d : Nat) (w : World) (hO : HOK [.rd A 1 n c (xs.map b8), .rd B 1 n d (ys.map b8)] w) (hx : xs.length = n) (hy : ys.length = n) (hn : n ≤ 100000000) : Calls Try.prog 72 [(.slice A n c), (.slice B n d)].toArray w (Ret (T := Unit) [] w (fun _ => True) (fun _ => (b64 (eqw xs ys))) (fun _ => [])) := by
 have hF : Wid Fence.wide := wid_wide
 refine enter (c := _) Try.func72 rfl [] _ [.rd A 1 n c (xs.map b8), .rd B 1 n d (ys.map b8)] (by rw [Try.ntmps72]; rfl) (own_rds hO rfl) ?_
 rw [Try.ntmps72]
 refine T_re [(0, (.slice A n c)), (1, (.slice B n d))] (sc rfl (sc rfl sn)) ?_
 refine T_he [0, 1] [.rd A 1 n c (xs.map b8), .rd B 1 n d (ys.map b8)] ⟨by decide, rfl⟩ ?_
 refine Tsr hF rfl ?_
 refine la rfl rfl rfl rfl rfl ?_
 refine L_nil ?_
 refine T_seq ?_
 refine Tsr hF rfl ?_
 refine lm rfl rfl rfl rfl rfl ?_
 refine lo rfl (pr_len_sl Try.underlying23 rfl rfl) rfl rfl ?_
 refine lm rfl rfl rfl rfl rfl ?_
 refine lo rfl (pr_len_sl Try.underlying23 rfl rfl) rfl rfl ?_
 refine lo rfl (pr_cmp (bo := .neq) (nc_ne (a := n) (b := n)) rfl rfl rfl rfl) rfl rfl ?_
 refine L_nil ?_
 refine T_cond_no (t := (n != n)) rfl (by simp) ?_
 refine T_skip ?_
 refine Tsr hF rfl ?_
 refine la rfl rfl rfl rfl rfl ?_
 refine L_nil ?_
 refine T_seq ?_
 refine Tsr hF rfl ?_
 refine lm rfl rfl rfl rfl rfl ?_
 refine lo rfl (pr_len_sl Try.underlying23 rfl rfl) rfl rfl ?_
 refine lm rfl rfl rfl rfl rfl ?_
 refine L_nil ?_
 refine T_block ?_
 refine T_slot 5 (b8 (0#8)) (b8 (orx xs ys 0)) rfl (by rw [orx_zero]) ?_
 refine T_loop (T := Nat) (fun i => i ≤ n) (fun i => [(0, (.slice A n c)), (1, (.slice B n d)), (5, (b8 (orx xs ys i))), (13, (.int .i64 ((n : Nat) : Int))), (14, (.int .i64 ((i : Nat) : Int)))]) (fun i => [.rd A 1 n c (xs.map b8), .rd B 1 n d (ys.map b8)]) (fun i => n - i) 0 (by first | trivial | ((try dsimp only); first | omega | (refine ⟨?_, ?_⟩ <;> omega) | (refine ⟨?_, ?_, ?_⟩ <;> omega) | (simp; done) | (simp; omega))) (sc rfl (sc rfl (sc rfl (sc rfl (sc rfl sn))))) [0, 1] ⟨by decide, rfl⟩ ?_
 rintro i hp
 have hp : i ≤ n := hp
 refine T_re [(0, (.slice A n c)), (1, (.slice B n d)), (5, (b8 (orx xs ys i))), (13, (.int .i64 ((n : Nat) : Int))), (14, (.int .i64 ((i : Nat) : Int)))] (sc rfl (sc rfl (sc rfl (sc rfl (sc rfl sn))))) ?_
 refine T_he [0, 1] [.rd A 1 n c (xs.map b8), .rd B 1 n d (ys.map b8)] ⟨by decide, rfl⟩ ?_
 refine Tsr hF rfl ?_
 refine lo rfl (pr_cmp (bo := .lss) (nc_lt (a := i) (b := n)) rfl rfl rfl rfl) rfl rfl ?_
 refine L_nil ?_
 refine T_seq ?_
 refine T_cond (decide (i < n)) rfl (fun hc_1 => ?_) (fun hc_1 => ?_)
 ·
  have hc_1 := of_decide_eq_true hc_1
  refine T_skip ?_
  refine T_seq ?_
  refine T_block ?_
  refine Tsr hF rfl ?_
  refine lm rfl rfl rfl rfl rfl ?_
  refine la rfl rfl rfl rfl rfl ?_
  refine L_nil ?_
  refine T_regD [.rd A 1 n c (xs.map b8), .rd B 1 n d (ys.map b8)] 12 12 #[false, false, false, false, false, false, false, false, false, false, false, false] hF kr kr ?_
  refine D_pure (i := 0) [0, 1] rfl kr rfl (pr_move rfl rfl) (.inr rfl) rfl rfl ?_
  refine D_pure (i := 1) [0, 1] rfl kr rfl (pr_move rfl rfl) (.inr rfl) rfl rfl ?_
  refine D_pure (i := 2) [0, 1] rfl kr rfl (pr_move rfl rfl) (.inr rfl) rfl rfl ?_
  refine D_pure (i := 3) [0, 1] rfl kr rfl (pr_ixs1 (j := i) (src_none (src_rd 0 rfl)) sd Try.underlying23 kr rfl rfl rfl) (.inr rfl) rfl rfl ?_
  refine D_pure (i := 5) [0, 1] rfl kr rfl (pr_move rfl rfl) (.inr rfl) rfl rfl ?_
  refine D_pure (i := 6) [0, 1] rfl kr rfl (pr_move rfl rfl) (.inr rfl) rfl rfl ?_
  refine D_pure (i := 7) [0, 1] rfl kr rfl (pr_ixs1 (j := i) (src_none (src_rd 1 rfl)) sd Try.underlying23 kr rfl rfl rfl) (.inr rfl) rfl rfl ?_
  refine D_take (i := 4) [0, 1] rfl kr rfl (ld_src (m := i) (src_rd 0 rfl) (get8 sd) Try.underlying5 rfl rfl rfl) rfl rfl rfl ?_
  refine D_take (i := 8) [0, 1] rfl kr rfl (ld_src (m := i) (src_rd 1 rfl) (get8 sd) Try.underlying5 rfl rfl rfl) rfl rfl rfl ?_
  refine D_pure (i := 9) [0, 1] rfl kr rfl (pr_xor (ib_xor8 _ _) rfl rfl rfl) (.inr rfl) rfl rfl ?_
  refine D_pure (i := 10) [0, 1] rfl kr rfl (pr_or (ib_or8 _ _) rfl rfl rfl) (.inr rfl) rfl rfl ?_
  refine D_pure (i := 11) [0, 1] rfl kr rfl (pr_assign rfl rfl) (.inr rfl) rfl rfl ?_
  refine D_done kr ?_
  refine T_reg hF rfl ?_
  refine lo rfl (pr_add (na_i64 (a := i) (b := 1) sd) rfl rfl rfl) rfl rfl ?_
  refine lm rfl rfl rfl rfl rfl ?_
  refine L_nil ?_
  refine T_slot 5 (b8 ((orx xs ys i) ||| ((ath xs i) ^^^ (ath ys i)))) (b8 (orx xs ys (i + 1))) rfl (by rw [orx_succ]) ?_
  exact T_again (i + 1) (by first | trivial | ((try dsimp only); first | omega | (refine ⟨?_, ?_⟩ <;> omega) | (refine ⟨?_, ?_, ?_⟩ <;> omega) | (simp; done) | (simp; omega))) (by first | trivial | ((try dsimp only); first | omega | (refine ⟨?_, ?_⟩ <;> omega) | (refine ⟨?_, ?_, ?_⟩ <;> omega) | (simp; done) | (simp; omega))) (sc rfl (sc rfl (sc rfl (sc rfl (sc rfl sn))))) [0, 1] ⟨by decide, rfl⟩
 ·
  have hc_1 := of_decide_eq_false hc_1
  refine T_exit rfl ?_
  obtain rfl : n = i := by omega
  refine Tsr hF rfl ?_
  refine lm rfl rfl rfl rfl rfl ?_
  refine lo rfl (pr_cv (cv8_64 _) Try.underlying5 Try.underlying30 rfl rfl) rfl rfl ?_
  refine L_op rfl (op_cn (fun w hw => ctsame_f ((orx xs ys n).setWidth 64) (0#64) w (hok_nil w) ) (enters_of Try.func83 kr rfl) rfl rfl rfl rfl rfl (fun t2 q3 => ?_))
  refine la rfl rfl rfl rfl rfl ?_
  refine L_nil ?_
  refine T_ret ?_
  refine T_slot 4 (b64 (CtPure.same ((orx xs ys n).setWidth 64) (0#64))) (b64 (eqw xs ys)) rfl (by rw [eqw_of xs ys n hx hy]) ?_
  exact T_fin () (by first | trivial | omega | (simp; done)) (res1 rfl rfl) [] ⟨by decide, rfl⟩ rfl
set_option maxRecDepth 100000 in
set_option maxHeartbeats 4000000 in
theorem padded_seq (aad : List (BitVec 8)) (cs : List (BitVec 8)) (A1 : Option Addr) (n1 : Nat) (c1 : Nat) (A2 : Option Addr) (n2 : Nat) (c2 : Nat) (A : Option Addr) (g1 : Nat) (h1 : aad.length = n1) (h2 : cs.length = n2) (h3 : n1 ≤ 100000000) (h4 : n2 ≤ 100000000) : SeqC (Θ := Option Addr × Nat × Nat) Try.prog 89 [(.pointer (some ⟨g1, 0, none⟩))] [.rd (some ⟨g1, 0, none⟩) 1 1 1 [(.slice A 2 2)], .rd A 1 2 2 [(.slice A1 n1 c1), (.slice A2 n2 c2)], .rd A1 1 n1 c1 (aad.map b8), .rd A2 1 n2 c2 (cs.map b8)] 5 (fun k ⟨B, m, c⟩ => [(.slice B m c)]) (fun k ⟨B, m, c⟩ => [.rd B 1 m c ((pdc aad cs k).map b8)]) := by
 have hF : Wid Fence.wide := wid_wide
 refine enter_seq (c := _) Try.func89 rfl (by rw [Try.ntmps89]; rfl) rfl ?_
 intro l J Jx W O R hsJ hsX hy hend
 rw [Try.ntmps89]
 refine T_re [(0, (.func (.yield l) #[] #[])), (1, (.pointer (some ⟨g1, 0, none⟩)))] (sc rfl (sc rfl sn)) ?_
 refine T_he [0, 1, 2, 3, 4] [.inv W.heap.size O R (J 0 O R), .rd (some ⟨g1, 0, none⟩) 1 1 1 [(.slice A 2 2)], .rd A 1 2 2 [(.slice A1 n1 c1), (.slice A2 n2 c2)], .rd A1 1 n1 c1 (aad.map b8), .rd A2 1 n2 c2 (cs.map b8)] ⟨by decide, rfl⟩ ?_
 refine Tsr hF rfl ?_
 refine la rfl rfl rfl rfl rfl ?_
 refine L_nil ?_
 refine T_seq ?_
 refine Tsr hF rfl ?_
 refine lq rfl (ld_rdb (src_rd 1 rfl) rfl Try.underlying127 rfl rfl rfl) rfl rfl ?_
 refine lo rfl (pr_len_sl Try.underlying127 rfl rfl) rfl rfl ?_
 refine lm rfl rfl rfl rfl rfl ?_
 refine L_nil ?_
 refine T_block ?_
 refine T_rounds 3 ?_
 refine T_round ?_
 refine Tsr hF rfl ?_
 refine lo rfl (pr_cmp (bo := .lss) (nc_lt (a := 0) (b := 2)) rfl rfl rfl rfl) rfl rfl ?_
 refine L_nil ?_
 refine T_seq ?_
 refine T_cond_t rfl ?_
 refine T_skip ?_
 refine T_seq ?_
 refine T_block ?_
 refine Tsr hF rfl ?_
 refine lo rfl (pr_ixs1 (j := 0) (src_none (src_rd 2 rfl)) sd Try.underlying127 kr rfl rfl rfl) rfl rfl ?_
 refine lq rfl (ld_src (m := 0) (src_rd 2 rfl) rfl Try.underlying23 rfl rfl rfl) rfl rfl ?_
 refine la rfl rfl rfl rfl rfl ?_
 refine L_nil ?_
 refine Tsr hF rfl ?_
 refine lm rfl rfl rfl rfl rfl ?_
 refine lm rfl rfl rfl rfl rfl ?_
 refine lo rfl (pr_len_sl Try.underlying23 rfl rfl) rfl rfl ?_
 refine lo rfl (pr_cv (ni_u64 (a := n1) sd) Try.underlying3 Try.underlying30 rfl rfl) rfl rfl ?_
 refine T_slot 15 _ (b64 (BitVec.ofNat 64 n1)) rfl (nat64 sd) ?_
 refine T_nilrow 5 1 ?_
 refine L_op rfl (op_c1 0 rfl (fun w hw => putLow_f [] (BitVec.ofNat 64 n1) 8 none 0 0 w (hw _ (List.mem_of_getElem? (i := 0) rfl)) sd sd) (enters_of Try.func60 kr rfl) rfl rfl rfl rfl rfl (fun t1 q2 => ?_))
 obtain ⟨B3, d4⟩ := t1
 refine la rfl rfl rfl rfl rfl ?_
 refine L_nil ?_
 refine T_seq ?_
 refine T_regI ?_
 refine LI_opP hF rfl rfl (op_pr (pr_move rfl rfl) rfl rfl ?_)
 refine LI_opP hF rfl rfl (op_pr (pr_move rfl rfl) rfl rfl ?_)
 refine T_as 4 _ (.rd A1 1 n1 c1 ((pdc aad cs 0).map b8)) rfl (by first | rw [pdc0] | rw [pdc1 aad cs n1 h1] | rw [pdc2] | rw [pdc3 aad cs n2 h2] | rw [pdc4 aad cs n1 n2 h1 h2]) ?_
 refine LI_op rfl (op_yield (k := 0) ((A1 : Option Addr), (n1 : Nat), (c1 : Nat)) hy sd hsJ hsX 2 rfl [0] rfl rfl rfl rfl rfl rfl rfl rfl rfl (fun _ => trivial) (fun O5 R6 => ?_) (fun O7 R8 => ?_))
 ·
  refine LI_opP hF rfl rfl (op_pr (pr_un (v := .bool false) rfl rfl rfl) rfl rfl ?_)
  refine LI_opP hF rfl rfl (op_pr (pr_move rfl rfl) rfl rfl ?_)
  refine LI_opP hF rfl rfl (op_pr (pr_move rfl rfl) rfl rfl ?_)
  refine LI_opP hF rfl rfl (op_pr (pr_move rfl rfl) rfl rfl ?_)
  refine LI_opP hF rfl rfl (op_pr (pr_len_sl Try.underlying23 rfl rfl) rfl rfl ?_)
  refine LI_opP hF rfl rfl (op_pr (pr_rem (a := n1) (b := 16) sd rfl rfl rfl) rfl rfl ?_)
  refine LI_opP hF rfl rfl (op_pr (pr_sub (ns_i64 (a := 16) (b := n1 % 16) sd sd) rfl rfl rfl) rfl rfl ?_)
  refine LI_opP hF rfl rfl (op_pr (pr_rem (a := 16 - (n1 % 16)) (b := 16) sd rfl rfl rfl) rfl rfl ?_)
  refine LI_opP hF rfl rfl (op_make (z := (b8 (0#8))) (n := (16 - (n1 % 16)) % 16) (c := (16 - (n1 % 16)) % 16) Try.underlying23 (bytes := 1) kr rfl sd sd sd rfl rfl rfl rfl rfl (fun g9 => ?_))
  refine T_as 0 _ (.blk g9 5 ((List.replicate ((16 - (n1 % 16)) % 16) 0#8).map b8)) rfl (by rw [List.map_replicate]) ?_
  refine T_oldb 0 (zs := ((List.replicate ((16 - (n1 % 16)) % 16) 0#8).map b8)) 0 1 ((16 - (n1 % 16)) % 16) ((16 - (n1 % 16)) % 16) rfl (by simp) (by rw [List.drop_zero, List.take_of_length_le (by simp)]) (Nat.le_refl _) (by omega) ?_
  refine T_tord 0 rfl ?_
  refine T_as 0 _ (.rd (some ⟨g9, 0, none⟩) 1 ((16 - (n1 % 16)) % 16) ((16 - (n1 % 16)) % 16) ((pdc aad cs 1).map b8)) rfl (by first | rw [pdc0] | rw [pdc1 aad cs n1 h1] | rw [pdc2] | rw [pdc3 aad cs n2 h2] | rw [pdc4 aad cs n1 n2 h1 h2]) ?_
  refine LI_op rfl (op_yield (k := 1) ((some ⟨g9, 0, none⟩ : Option Addr), ((16 - (n1 % 16)) % 16 : Nat), ((16 - (n1 % 16)) % 16 : Nat)) hy sd hsJ hsX 1 rfl [0] rfl rfl rfl rfl rfl rfl rfl rfl rfl (fun _ => trivial) (fun O10 R11 => ?_) (fun O12 R13 => ?_))
  ·
   refine LI_opP hF rfl rfl (op_pr (pr_un (v := .bool false) rfl rfl rfl) rfl rfl ?_)
   refine LI_opP hF rfl rfl (op_pr (pr_pick_f rfl rfl rfl) rfl rfl ?_)
   refine LI_nil ?_
   refine T_cond_f rfl ?_
   refine T_skip ?_
   refine T_reg hF rfl ?_
   refine lo rfl (pr_add (na_i64 (a := 0) (b := 1) sd) rfl rfl rfl) rfl rfl ?_
   refine lm rfl rfl rfl rfl rfl ?_
   refine L_nil ?_
   refine T_round ?_
   refine Tsr hF rfl ?_
   refine lo rfl (pr_cmp (bo := .lss) (nc_lt (a := 1) (b := 2)) rfl rfl rfl rfl) rfl rfl ?_
   refine L_nil ?_
   refine T_seq ?_
   refine T_cond_t rfl ?_
   refine T_skip ?_
   refine T_seq ?_
   refine T_block ?_
   refine Tsr hF rfl ?_
   refine lo rfl (pr_ixs1 (j := 1) (src_none (src_rd 5 rfl)) sd Try.underlying127 kr rfl rfl rfl) rfl rfl ?_
   refine lq rfl (ld_src (m := 1) (src_rd 5 rfl) rfl Try.underlying23 rfl rfl rfl) rfl rfl ?_
   refine la rfl rfl rfl rfl rfl ?_
   refine L_nil ?_
   refine Tsr hF rfl ?_
   refine lm rfl rfl rfl rfl rfl ?_
   refine lm rfl rfl rfl rfl rfl ?_
   refine lo rfl (pr_len_sl Try.underlying23 rfl rfl) rfl rfl ?_
   refine lo rfl (pr_cv (ni_u64 (a := n2) sd) Try.underlying3 Try.underlying30 rfl rfl) rfl rfl ?_
   refine T_slot 15 _ (b64 (BitVec.ofNat 64 n2)) rfl (nat64 sd) ?_
   refine L_op rfl (op_c1 3 rfl (fun w hw => putLow_f ([] ++ lowb (BitVec.ofNat 64 n1) 8) (BitVec.ofNat 64 n2) 8 B3 (0 + 8) d4 w (hw _ (List.mem_of_getElem? (i := 3) rfl)) sd sd) (enters_of Try.func60 kr rfl) rfl rfl rfl rfl rfl (fun t14 q15 => ?_))
   obtain ⟨B16, d17⟩ := t14
   refine la rfl rfl rfl rfl rfl ?_
   refine L_nil ?_
   refine T_seq ?_
   refine T_regI ?_
   refine LI_opP hF rfl rfl (op_pr (pr_move rfl rfl) rfl rfl ?_)
   refine LI_opP hF rfl rfl (op_pr (pr_move rfl rfl) rfl rfl ?_)
   refine T_as 6 _ (.rd A2 1 n2 c2 ((pdc aad cs 2).map b8)) rfl (by first | rw [pdc0] | rw [pdc1 aad cs n1 h1] | rw [pdc2] | rw [pdc3 aad cs n2 h2] | rw [pdc4 aad cs n1 n2 h1 h2]) ?_
   refine LI_op rfl (op_yield (k := 2) ((A2 : Option Addr), (n2 : Nat), (c2 : Nat)) hy sd hsJ hsX 2 rfl [0] rfl rfl rfl rfl rfl rfl rfl rfl rfl (fun _ => trivial) (fun O18 R19 => ?_) (fun O20 R21 => ?_))
   ·
    refine LI_opP hF rfl rfl (op_pr (pr_un (v := .bool false) rfl rfl rfl) rfl rfl ?_)
    refine LI_opP hF rfl rfl (op_pr (pr_move rfl rfl) rfl rfl ?_)
    refine LI_opP hF rfl rfl (op_pr (pr_move rfl rfl) rfl rfl ?_)
    refine LI_opP hF rfl rfl (op_pr (pr_move rfl rfl) rfl rfl ?_)
    refine LI_opP hF rfl rfl (op_pr (pr_len_sl Try.underlying23 rfl rfl) rfl rfl ?_)
    refine LI_opP hF rfl rfl (op_pr (pr_rem (a := n2) (b := 16) sd rfl rfl rfl) rfl rfl ?_)
    refine LI_opP hF rfl rfl (op_pr (pr_sub (ns_i64 (a := 16) (b := n2 % 16) sd sd) rfl rfl rfl) rfl rfl ?_)
    refine LI_opP hF rfl rfl (op_pr (pr_rem (a := 16 - (n2 % 16)) (b := 16) sd rfl rfl rfl) rfl rfl ?_)
    refine LI_opP hF rfl rfl (op_make (z := (b8 (0#8))) (n := (16 - (n2 % 16)) % 16) (c := (16 - (n2 % 16)) % 16) Try.underlying23 (bytes := 1) kr rfl sd sd sd rfl rfl rfl rfl rfl (fun g22 => ?_))
    refine T_as 0 _ (.blk g22 5 ((List.replicate ((16 - (n2 % 16)) % 16) 0#8).map b8)) rfl (by rw [List.map_replicate]) ?_
    refine T_oldb 0 (zs := ((List.replicate ((16 - (n2 % 16)) % 16) 0#8).map b8)) 0 1 ((16 - (n2 % 16)) % 16) ((16 - (n2 % 16)) % 16) rfl (by simp) (by rw [List.drop_zero, List.take_of_length_le (by simp)]) (Nat.le_refl _) (by omega) ?_
    refine T_tord 0 rfl ?_
    refine T_as 0 _ (.rd (some ⟨g22, 0, none⟩) 1 ((16 - (n2 % 16)) % 16) ((16 - (n2 % 16)) % 16) ((pdc aad cs 3).map b8)) rfl (by first | rw [pdc0] | rw [pdc1 aad cs n1 h1] | rw [pdc2] | rw [pdc3 aad cs n2 h2] | rw [pdc4 aad cs n1 n2 h1 h2]) ?_
    refine LI_op rfl (op_yield (k := 3) ((some ⟨g22, 0, none⟩ : Option Addr), ((16 - (n2 % 16)) % 16 : Nat), ((16 - (n2 % 16)) % 16 : Nat)) hy sd hsJ hsX 1 rfl [0] rfl rfl rfl rfl rfl rfl rfl rfl rfl (fun _ => trivial) (fun O23 R24 => ?_) (fun O25 R26 => ?_))
    ·
     refine LI_opP hF rfl rfl (op_pr (pr_un (v := .bool false) rfl rfl rfl) rfl rfl ?_)
     refine LI_opP hF rfl rfl (op_pr (pr_pick_f rfl rfl rfl) rfl rfl ?_)
     refine LI_nil ?_
     refine T_cond_f rfl ?_
     refine T_skip ?_
     refine T_reg hF rfl ?_
     refine lo rfl (pr_add (na_i64 (a := 1) (b := 1) sd) rfl rfl rfl) rfl rfl ?_
     refine lm rfl rfl rfl rfl rfl ?_
     refine L_nil ?_
     refine T_round ?_
     refine Tsr hF rfl ?_
     refine lo rfl (pr_cmp (bo := .lss) (nc_lt (a := 2) (b := 2)) rfl rfl rfl rfl) rfl rfl ?_
     refine L_nil ?_
     refine T_seq ?_
     refine T_cond_f rfl ?_
     refine T_exit rfl ?_
     refine T_regI ?_
     refine LI_opP hF rfl rfl (op_pr (pr_move rfl rfl) rfl rfl ?_)
     refine LI_opP hF rfl rfl (op_pr (pr_move rfl rfl) rfl rfl ?_)
     refine T_old 3 rfl ?_
     refine T_tord 0 rfl ?_
     refine T_as 0 _ (.rd B16 1 ((0 + 8) + 8) d17 ((pdc aad cs 4).map b8)) rfl (by first | rw [pdc0] | rw [pdc1 aad cs n1 h1] | rw [pdc2] | rw [pdc3 aad cs n2 h2] | rw [pdc4 aad cs n1 n2 h1 h2]) ?_
     refine LI_op rfl (op_yield (k := 4) ((B16 : Option Addr), ((0 + 8) + 8 : Nat), (d17 : Nat)) hy sd hsJ hsX 1 rfl [0] rfl rfl rfl rfl rfl rfl rfl rfl rfl (fun _ => trivial) (fun O27 R28 => ?_) (fun O29 R30 => ?_))
     ·
      refine LI_nil ?_
      exact T_finJ rfl rfl 0 rfl
     ·
      refine LI_nil ?_
      exact T_finX rfl rfl 0 rfl
    ·
     refine LI_opP hF rfl rfl (op_pr (pr_un (v := .bool true) rfl rfl rfl) rfl rfl ?_)
     refine LI_opP hF rfl rfl (op_pr (pr_pick_f rfl rfl rfl) rfl rfl ?_)
     refine LI_nil ?_
     refine T_cond_t rfl ?_
     refine T_ret ?_
     exact T_finX rfl rfl 0 rfl
   ·
    refine LI_opP hF rfl rfl (op_pr (pr_un (v := .bool true) rfl rfl rfl) rfl rfl ?_)
    refine LI_opP hF rfl rfl (op_pr (pr_move rfl rfl) rfl rfl ?_)
    refine LI_skip hF rfl rfl rfl ?_
    refine LI_skip hF rfl rfl rfl ?_
    refine LI_skip hF rfl rfl rfl ?_
    refine LI_skip hF rfl rfl rfl ?_
    refine LI_skip hF rfl rfl rfl ?_
    refine LI_skip hF rfl rfl rfl ?_
    refine LI_skip hF rfl rfl rfl ?_
    refine LI_skip hF rfl rfl rfl ?_
    refine LI_skip hF rfl rfl rfl ?_
    refine LI_opP hF rfl rfl (op_pr (pr_pick_t rfl rfl rfl) rfl rfl ?_)
    refine LI_nil ?_
    refine T_cond_t rfl ?_
    refine T_ret ?_
    exact T_finX rfl rfl 0 rfl
  ·
   refine LI_opP hF rfl rfl (op_pr (pr_un (v := .bool true) rfl rfl rfl) rfl rfl ?_)
   refine LI_opP hF rfl rfl (op_pr (pr_pick_f rfl rfl rfl) rfl rfl ?_)
   refine LI_nil ?_
   refine T_cond_t rfl ?_
   refine T_ret ?_
   exact T_finX rfl rfl 0 rfl
 ·
  refine LI_opP hF rfl rfl (op_pr (pr_un (v := .bool true) rfl rfl rfl) rfl rfl ?_)
  refine LI_opP hF rfl rfl (op_pr (pr_move rfl rfl) rfl rfl ?_)
  refine LI_skip hF rfl rfl rfl ?_
  refine LI_skip hF rfl rfl rfl ?_
  refine LI_skip hF rfl rfl rfl ?_
  refine LI_skip hF rfl rfl rfl ?_
  refine LI_skip hF rfl rfl rfl ?_
  refine LI_skip hF rfl rfl rfl ?_
  refine LI_skip hF rfl rfl rfl ?_
  refine LI_skip hF rfl rfl rfl ?_
  refine LI_skip hF rfl rfl rfl ?_
  refine LI_opP hF rfl rfl (op_pr (pr_pick_t rfl rfl rfl) rfl rfl ?_)
  refine LI_nil ?_
  refine T_cond_t rfl ?_
  refine T_ret ?_
  exact T_finX rfl rfl 0 rfl
set_option maxHeartbeats 4000000 in
theorem padded_f (A : Option Addr) (n : Nat) (c : Nat) (w : World) (hO : HOK [] w)  : Calls Try.prog 80 [(.slice A n c)].toArray w (Ret (T := Nat) [] w (fun g1 => True) (fun g1 => (.func (.func 89) #[] [(.pointer (some ⟨g1, 0, none⟩))].toArray)) (fun g1 => [.old (some ⟨g1, 0, none⟩) 1 1 1 [(.slice A n c)]])) := by
 have hF : Wid Fence.wide := wid_wide
 refine enter (c := _) Try.func80 rfl [] _ [] (by rw [Try.ntmps80]; rfl) (own_rds hO rfl) ?_
 rw [Try.ntmps80]
 refine T_re [(0, (.slice A n c))] (sc rfl sn) ?_
 refine T_he [] [] ⟨by decide, rfl⟩ ?_
 refine Tsr hF rfl ?_
 refine L_op rfl (op_box (zs := [(.slice A n c)]) rfl rfl rfl rfl rfl (fun g1 => ?_))
 refine la rfl rfl rfl rfl rfl ?_
 refine L_nil ?_
 refine Tsr hF rfl ?_
 refine lo rfl (pr_mkfn (us := []) (vs := [(.pointer (some ⟨g1, 0, none⟩))]) rfl rfl rfl) rfl rfl ?_
 refine la rfl rfl rfl rfl rfl ?_
 refine L_nil ?_
 refine T_ret ?_
 refine T_oldb 0 (zs := [(.slice A n c)]) 0 1 1 1 rfl rfl rfl sd sd ?_
 exact T_fin g1 (by first | trivial | omega | (simp; done)) (res1 rfl rfl) [0] ⟨by decide, rfl⟩ rfl
set_option maxRecDepth 100000 in
set_option maxHeartbeats 4000000 in
theorem atag_f (key : List (BitVec 8)) (nonce : List (BitVec 8)) (aad : List (BitVec 8)) (cs : List (BitVec 8)) (A1 : Option Addr) (n1 : Nat) (c1 : Nat) (A2 : Option Addr) (n2 : Nat) (c2 : Nat) (w : World) (hO : HOK [.rd A1 1 n1 c1 (aad.map b8), .rd A2 1 n2 c2 (cs.map b8)] w) (hk : key.length = 32) (hn : nonce.length = 12) (h1 : aad.length = n1) (h2 : cs.length = n2) (h3 : n1 ≤ 100000000) (h4 : n2 ≤ 100000000) : Calls Try.prog 70 [(.agg (key.map b8).toArray), (.agg (nonce.map b8).toArray), (.slice A1 n1 c1), (.slice A2 n2 c2)].toArray w (Ret (T := Unit) [] w (fun _ => True) (fun _ => (.agg ((atag key nonce aad cs).map b8).toArray)) (fun _ => [])) := by
 have hbl := cblock_len key 0#32 nonce
 have hal := atext_le aad cs
 have htl := atag_len key nonce aad cs
 have h32 : (List.take 32 (cblock key 0#32 nonce)).length = 32 := by rw [List.length_take, hbl]; rfl
 have hF : Wid Fence.wide := wid_wide
 refine enter_m (c := _) Try.func70 rfl [] _ [.rd A1 1 n1 c1 (aad.map b8), .rd A2 1 n2 c2 (cs.map b8)] (by rw [Try.ntmps70]; rfl) (own_rds hO rfl) ?_
 rw [Try.ntmps70]
 refine T_re [(0, (.agg (key.map b8).toArray)), (1, (.agg (nonce.map b8).toArray)), (2, (.slice A1 n1 c1)), (3, (.slice A2 n2 c2))] (sc rfl (sc rfl (sc rfl (sc rfl sn)))) ?_
 refine T_he [0, 1] [.rd A1 1 n1 c1 (aad.map b8), .rd A2 1 n2 c2 (cs.map b8)] ⟨by decide, rfl⟩ ?_
 refine Tsr hF rfl ?_
 refine L_op rfl (op_box (zs := (key.map b8)) rfl rfl rfl rfl rfl (fun g1 => ?_))
 refine L_op rfl (op_box (zs := (nonce.map b8)) rfl rfl rfl rfl rfl (fun g2 => ?_))
 refine L_op rfl (op_alloc (z := .agg ((List.replicate 16 0#8).map b8).toArray) (zs := ((List.replicate 16 0#8).map b8)) kr rfl rfl rfl rfl (fun g3 => ?_))
 refine L_nil ?_
 refine Tsr hF rfl ?_
 refine lq rfl (ld_agg (ds := (key.map b8)) 2 rfl agg_all Try.underlying50 rfl (fwz (n := 32) kr sd) rfl rfl) rfl rfl ?_
 refine lq rfl (ld_agg (ds := (nonce.map b8)) 1 rfl agg_all Try.underlying86 rfl (fwz (n := 12) kr sd) rfl rfl) rfl rfl ?_
 refine L_op rfl (op_cn (fun w hw => cblock_f key (0#32) nonce w (hok_nil w) (by first | assumption | exact sd) (by first | assumption | exact sd)) (enters_of Try.func79 kr rfl) rfl rfl rfl rfl rfl (fun t4 q5 => ?_))
 refine L_op rfl (op_alloc (z := .agg ((List.replicate 64 0#8).map b8).toArray) (zs := ((List.replicate 64 0#8).map b8)) kr rfl rfl rfl rfl (fun g6 => ?_))
 refine L_op rfl (op_sto (n := 64) (vs := ((cblock key (0#32) nonce).map b8)) 0 rfl rfl kr (all8_one _) kr sd rfl rfl rfl rfl ?_)
 refine L_nil ?_
 refine Tsr hF rfl ?_
 refine L_op rfl (op_alloc (z := (.slice none 0 0)) (zs := [(.slice none 0 0)]) kr rfl rfl rfl rfl (fun g7 => ?_))
 refine L_nil ?_
 refine T_seq ?_
 refine Tsr hF rfl ?_
 refine lm rfl rfl rfl rfl rfl ?_
 refine lm rfl rfl rfl rfl rfl ?_
 refine L_op rfl (op_bslice (e := 23) (zs := [(.slice A1 n1 c1), (.slice A2 n2 c2)]) (qs := [(0, (.slice A1 n1 c1)), (1, (.slice A2 n2 c2))]) (fun _ => by kernel_rfl) rfl rfl rfl rfl (fun g8 => ?_))
 refine T_oldb 0 (zs := [(.slice A1 n1 c1), (.slice A2 n2 c2)]) 0 1 2 2 rfl rfl rfl (Nat.le_refl _) (by omega) ?_
 refine T_tord 0 rfl ?_
 refine L_op rfl (op_cn (fun w hw => padded_f (some ⟨g8, 0, none⟩) 2 2 w (hok_nil w) ) (enters_of Try.func80 kr rfl) rfl rfl rfl rfl rfl (fun t9 q10 => ?_))
 obtain ⟨g1_11, eg1_11⟩ : ∃ x, x = t9 := ⟨_, rfl⟩
 subst eg1_11
 refine L_nil ?_
 refine T_block ?_
 refine T_tord 0 rfl ?_
 refine T_nilrow 23 1 ?_
 refine T_as 0 _ (.row (.slice none 0 0) 23 1 0 (([] : List Pt).map Pt.sl)) rfl rfl ?_
 refine T_allnil ?_
 refine T_range (Θ := Option Addr × Nat × Nat) (T := Option Addr × Nat × List Pt) (Tx := Unit) (cap := [(.pointer (some ⟨g1_11, 0, none⟩))]) (ps := [19]) (padded_seq aad cs A1 n1 c1 A2 n2 c2 (some ⟨g8, 0, none⟩) g1_11 sd sd sd sd) rfl (enters_of Try.func89 kr rfl) (fun k ⟨A1_, c1_, Q⟩ => Q.length = k ∧ catp Q = pdcat aad cs k) (fun k ⟨A1_, c1_, Q⟩ => [.all Q, .row (.slice A1_ k c1_) 23 1 k (Q.map Pt.sl), .rd (some ⟨g1_11, 0, none⟩) 1 1 1 [(.slice (some ⟨g8, 0, none⟩) 2 2)], .rd (some ⟨g8, 0, none⟩) 1 2 2 [(.slice A1 n1 c1), (.slice A2 n2 c2)], .blk g7 127 [(.slice A1_ k c1_)], .blk g6 125 ((cblock key (0#32) nonce).map b8), .blk g3 113 ((List.replicate 16 0#8).map b8), .blk g2 86 (nonce.map b8), .blk g1 50 (key.map b8), .rd A1 1 n1 c1 (aad.map b8), .rd A2 1 n2 c2 (cs.map b8)]) (fun _ => False) (fun _ => []) 0 (none, 0, []) (⟨rfl, by rw [pdcat_zero]; rfl⟩) [0, 1, 2, 3, 4, 5, 6, 7, 8, 9, 10] ⟨by decide, rfl⟩ [2, 3, 9, 10] rfl rfl (fun _ _ => rfl) (fun _ => rfl) (fun _ _ => rfl) (fun _ _ => rfl) rfl (fun _ => trivial) ?_ ?_ ?_
 ·
  intro C2 w2 lo2 rs2 l D m k t th rc hrec hk hp
  obtain ⟨A1_, c1_, Q⟩ := t
  obtain ⟨B, m, c⟩ := th
  have hp : Q.length = k ∧ catp Q = pdcat aad cs k := hp
  have hk : k < 5 := hk
  have hk5 : k ≤ 4 := by omega
  have hF : Wid (Fence.wide.inRound l) := wid_round l
  refine T_re [(10, (.pointer (some ⟨g7, 0, none⟩))), (19, (.slice B m c))] (sc rfl (sc rfl sn)) ?_
  refine T_he [0, 1, 2, 3, 4, 5, 6, 7, 8, 9, 10, 11, 12, 13] [.rd B 1 m c ((pdc aad cs k).map b8), .obj l (.loop rc), .obj D (.deferred (some [])), .all Q, .row (.slice A1_ k c1_) 23 1 k (Q.map Pt.sl), .rd (some ⟨g1_11, 0, none⟩) 1 1 1 [(.slice (some ⟨g8, 0, none⟩) 2 2)], .rd (some ⟨g8, 0, none⟩) 1 2 2 [(.slice A1 n1 c1), (.slice A2 n2 c2)], .blk g7 127 [(.slice A1_ k c1_)], .blk g6 125 ((cblock key (0#32) nonce).map b8), .blk g3 113 ((List.replicate 16 0#8).map b8), .blk g2 86 (nonce.map b8), .blk g1 50 (key.map b8), .rd A1 1 n1 c1 (aad.map b8), .rd A2 1 n2 c2 (cs.map b8)] ⟨by decide, rfl⟩ ?_
  refine T_reg hF rfl ?_
  refine la rfl rfl rfl rfl rfl ?_
  refine L_nil ?_
  refine T_begun 1 rfl hrec ?_
  refine T_block ?_
  refine T_reg hF rfl ?_
  refine lq rfl (ld_blk 7 rfl rfl Try.underlying127 rfl rfl rfl) rfl rfl ?_
  refine lm rfl rfl rfl rfl rfl ?_
  refine L_op rfl (op_bslice (e := 23) (zs := [(.slice B m c)]) (qs := [(0, (.slice B m c))]) (fun _ => by kernel_rfl) rfl rfl rfl rfl (fun g12 => ?_))
  refine L_op rfl (op_append (z := (.slice none 0 0)) (size := 1) (bytes := 24) 5 rfl Try.underlying127 kr kr (by decide) (src_full (z := 1) 0 rfl rfl sd sd) (by simp [Value.oneCell']) sd sd rfl rfl rfl rfl rfl (fun A13 C14 => ?_))
  refine T_as 0 _ (.row (.slice A13 (k + 1) C14) 23 1 (k + 1) ((Q ++ [(Pt.mk B m c (pdc aad cs k))]).map Pt.sl)) rfl (by first | rfl | (congr 1; simp; done) | (simp only [List.map_append]; rfl) | (rw [List.map_append]; rfl)) ?_
  refine L_op rfl (op_store (vs := [(.slice A13 (k + 1) C14)]) (cs' := [(.slice A13 (k + 1) C14)]) 8 rfl rfl kr (one_one rfl) (by first | decide | simp | exact Nat.le_refl _) rfl rfl rfl rfl rfl ?_)
  refine L_nil ?_
  refine T_alladd 6 4 rfl rfl ?_
  exact T_on (A13, C14, (Q ++ [(Pt.mk B m c (pdc aad cs k))])) (⟨by simp [hp.1], pd_next hp.2⟩) [4, 6, 0, 2, 8, 9, 1, 10, 11, 12, 13, 14, 15] ⟨by decide, rfl⟩
 ·
  intro D t hp
  obtain ⟨A1_, c1_, Q⟩ := t
  have hp : Q.length = 5 ∧ catp Q = pdcat aad cs 5 := hp
  have hcq : catp Q = atext aad cs := by rw [hp.2, pdcat_all]
  refine T_re [(8, (.pointer (some ⟨g3, 0, none⟩))), (9, (.pointer (some ⟨g6, 0, none⟩))), (10, (.pointer (some ⟨g7, 0, none⟩)))] (sc rfl (sc rfl (sc rfl sn))) ?_
  refine T_he [0, 1, 2, 3, 4, 5, 6, 7, 8, 9, 10, 11] [.obj D (.deferred (some [])), .all Q, .row (.slice A1_ 5 c1_) 23 1 5 (Q.map Pt.sl), .rd (some ⟨g1_11, 0, none⟩) 1 1 1 [(.slice (some ⟨g8, 0, none⟩) 2 2)], .rd (some ⟨g8, 0, none⟩) 1 2 2 [(.slice A1 n1 c1), (.slice A2 n2 c2)], .blk g7 127 [(.slice A1_ 5 c1_)], .blk g6 125 ((cblock key (0#32) nonce).map b8), .blk g3 113 ((List.replicate 16 0#8).map b8), .blk g2 86 (nonce.map b8), .blk g1 50 (key.map b8), .rd A1 1 n1 c1 (aad.map b8), .rd A2 1 n2 c2 (cs.map b8)] ⟨by decide, rfl⟩ ?_
  refine T_seq ?_
  refine T_regD [.obj D (.deferred (some [])), .all Q, .row (.slice A1_ 5 c1_) 23 1 5 (Q.map Pt.sl), .rd (some ⟨g1_11, 0, none⟩) 1 1 1 [(.slice (some ⟨g8, 0, none⟩) 2 2)], .rd (some ⟨g8, 0, none⟩) 1 2 2 [(.slice A1 n1 c1), (.slice A2 n2 c2)], .blk g7 127 [(.slice A1_ 5 c1_)], .blk g6 125 ((cblock key (0#32) nonce).map b8), .blk g3 113 ((List.replicate 16 0#8).map b8), .blk g2 86 (nonce.map b8), .blk g1 50 (key.map b8), .rd A1 1 n1 c1 (aad.map b8), .rd A2 1 n2 c2 (cs.map b8)] 5 6 #[false, false, false, false, false, false] hF kr kr ?_
  refine D_pure (i := 0) [0, 1, 2, 3, 4, 5, 6, 7, 8, 9, 10, 11] rfl kr rfl (pr_sla (l := 0) (u := 32) (m := 0) sd sd sd rfl Try.underlying125 (z := 1) kr rfl rfl rfl ⟨_, rfl⟩) (.inr rfl) rfl rfl ?_
  refine D_pure (i := 1) [0, 1, 2, 3, 4, 5, 6, 7, 8, 9, 10, 11] rfl kr rfl (pr_s2a sd Try.underlying50 rfl rfl) (.inr rfl) rfl rfl ?_
  refine D_take (i := 2) [0, 1, 2, 3, 4, 5, 6, 7, 8, 9, 10, 11] rfl kr rfl (ld_agg (ds := ((List.take 32 (cblock key (0#32) nonce)).map b8)) 6 rfl (by simp [List.map_take, List.map_drop]) Try.underlying50 rfl (fwz (n := 32) kr sd) rfl rfl) rfl rfl rfl ?_
  refine D_take (i := 3) [0, 1, 2, 3, 4, 5, 6, 7, 8, 9, 10, 11] rfl kr rfl (ld_blk 5 rfl rfl Try.underlying127 rfl rfl rfl) rfl rfl rfl ?_
  refine D_one 4 _ rfl kr rfl (op_cn (fun w hw => ptag_f (List.take 32 (cblock key (0#32) nonce)) Q A1_ 5 c1_ w (hok_cons ((src_row 2 rfl) w hw) (hok_cons (hw _ (List.mem_of_getElem? (i := 1) rfl)) (hok_nil w))) sd hp.1 (by omega) (by rw [hcq]; omega)) (enters_of Try.func81 kr rfl) rfl rfl rfl rfl rfl (fun t15 q16 => ?_))
  refine T_slot 28 _ (.agg ((atag key nonce aad cs).map b8).toArray) rfl (by rw [hcq, atag_def]) ?_
  refine D_on [0, 1, 2, 3, 4, 5, 6, 7, 8, 9, 10, 11] rfl ?_
  refine D_one 5 _ rfl kr rfl (op_sto (n := 16) (vs := ((atag key nonce aad cs).map b8)) 7 rfl rfl kr (all8_one _) kr sd rfl rfl rfl rfl ?_)
  refine D_past kr ?_
  refine D_done kr ?_
  refine T_ret ?_
  exact T_finM 1 rfl () (by first | trivial | omega | (simp; done)) (resb 0 rfl rfl rfl Try.underlying113 rfl (fwz (n := 16) kr sd)) [] ⟨by decide, rfl⟩ rfl
 ·
  exact fun D t hq => hq.elim
end Go.Proofs.Ytlplpmkdebemnaa
namespace Go.Proofs.Ytlplpmkdebemnaa
set_option linter.unusedVariables false
set_option linter.unusedSimpArgs false
set_option linter.unnecessarySimpa false
set_option maxRecDepth 100000
open Go.RowKit Bv Fw

theorem z16_len (xs : List (BitVec 8)) (n : Nat) (h : xs.length = n) : (z16 xs).length = (16 - n % 16) % 16 := by rw [← z16_def xs n h, List.length_replicate]
theorem eight_len (v : BitVec 64) : (lowb v 8).length = 8 := lowb_len v 8
theorem padk (n k : Nat) (h : k ≤ (16 - n % 16) % 16) (h2 : (n + k) % 16 = 0) : k = (16 - n % 16) % 16 := by omega
theorem padk_lt (n k : Nat) (h : k ≤ (16 - n % 16) % 16) (h2 : ¬ (n + k) % 16 = 0) : k < (16 - n % 16) % 16 := by omega
theorem lowb_succ (v : BitVec 64) (k : Nat) : lowb v (k + 1) = lowb v k ++ [(v >>> (8 * k)).setWidth 8] := rfl
theorem lens8_of (a c : List (BitVec 8)) (n m : Nat) (h : a.length = n) (h2 : c.length = m) (x : List (BitVec 8)) : x ++ lowb (BitVec.ofNat 64 n) 8 ++ lowb (BitVec.ofNat 64 m) 8 = x ++ lens8 a c := by subst h; subst h2; unfold lens8; rw [List.append_assoc]

set_option maxRecDepth 100000 in
set_option maxHeartbeats 4000000 in
theorem seal_f (key : List (BitVec 8)) (nonce : List (BitVec 8)) (aad : List (BitVec 8)) (cs : List (BitVec 8)) (A1 : Option Addr) (n1 : Nat) (c1 : Nat) (A2 : Option Addr) (n2 : Nat) (c2 : Nat) (w : World) (hO : HOK [.rd A1 1 n1 c1 (aad.map b8), .rd A2 1 n2 c2 (cs.map b8)] w) (hk : key.length = 32) (hn : nonce.length = 12) (h1 : aad.length = n1) (h2 : cs.length = n2) (h3 : n1 ≤ 65536) (h4 : n2 ≤ 65536) : Calls Try.prog 54 [(.agg (key.map b8).toArray), (.agg (nonce.map b8).toArray), (.slice A1 n1 c1), (.slice A2 n2 c2)].toArray w (Ret (T := Option Addr × Nat) [] w (fun ⟨B, d⟩ => True) (fun ⟨B, d⟩ => (.tuple [(.slice B (n2 + 16) d), (.int .i64 ((0 : Nat) : Int))].toArray)) (fun ⟨B, d⟩ => [.row (.slice B (n2 + 16) d) 5 1 (n2 + 16) ((aseal key nonce aad cs).map b8)])) := by
 have hcl := cxor_len key nonce 1#32 cs
 have hsl := aseal_len key nonce aad cs
 have htl := atag_len key nonce aad (cxor key nonce 1#32 cs)
 have hF : Wid Fence.wide := wid_wide
 refine enter (c := _) Try.func54 rfl [] _ [.rd A1 1 n1 c1 (aad.map b8), .rd A2 1 n2 c2 (cs.map b8)] (by rw [Try.ntmps54]; rfl) (own_rds hO rfl) ?_
 rw [Try.ntmps54]
 refine T_re [(0, (.agg (key.map b8).toArray)), (1, (.agg (nonce.map b8).toArray)), (2, (.slice A1 n1 c1)), (3, (.slice A2 n2 c2))] (sc rfl (sc rfl (sc rfl (sc rfl sn)))) ?_
 refine T_he [0, 1] [.rd A1 1 n1 c1 (aad.map b8), .rd A2 1 n2 c2 (cs.map b8)] ⟨by decide, rfl⟩ ?_
 refine Tsr hF rfl ?_
 refine L_op rfl (op_box (zs := (key.map b8)) rfl rfl rfl rfl rfl (fun g1 => ?_))
 refine L_op rfl (op_box (zs := (nonce.map b8)) rfl rfl rfl rfl rfl (fun g2 => ?_))
 refine la rfl rfl rfl rfl rfl ?_
 refine la rfl rfl rfl rfl rfl ?_
 refine L_nil ?_
 refine T_seq ?_
 refine Tsr hF rfl ?_
 refine lm rfl rfl rfl rfl rfl ?_
 refine lo rfl (pr_len_sl Try.underlying23 rfl rfl) rfl rfl ?_
 refine lo rfl (pr_cmp (bo := .gtr) (nc_lt (a := 65536) (b := n1)) rfl rfl rfl rfl) rfl rfl ?_
 refine lm rfl rfl rfl rfl rfl ?_
 refine T_slot 15 (.bool (decide (65536 < n1))) (.bool false) rfl (congrArg _ (by simp; omega)) ?_
 refine lm rfl rfl rfl rfl rfl ?_
 refine lo rfl (pr_len_sl Try.underlying23 rfl rfl) rfl rfl ?_
 refine lo rfl (pr_cmp (bo := .gtr) (nc_lt (a := 65536) (b := n2)) rfl rfl rfl rfl) rfl rfl ?_
 refine lo rfl (pr_pick_f rfl rfl rfl) rfl rfl ?_
 refine L_nil ?_
 refine T_cond_no (t := decide (65536 < n2)) rfl (by simp; omega) ?_
 refine T_skip ?_
 refine Tsr hF rfl ?_
 refine lq rfl (ld_agg (ds := (key.map b8)) 1 rfl agg_all Try.underlying50 rfl (fwz (n := 32) kr sd) rfl rfl) rfl rfl ?_
 refine lq rfl (ld_agg (ds := (nonce.map b8)) 0 rfl agg_all Try.underlying86 rfl (fwz (n := 12) kr sd) rfl rfl) rfl rfl ?_
 refine lm rfl rfl rfl rfl rfl ?_
 refine L_op rfl (op_cn (fun w hw => xor_f key nonce (1#32) cs A2 n2 c2 w (hok_cons ((src_rd 3 rfl) w hw) (hok_nil w)) (by first | assumption | exact sd) (by first | assumption | exact sd) (by first | assumption | omega | (simp; done) | (simp; omega)) sd) (enters_of Try.func69 kr rfl) rfl rfl rfl rfl rfl (fun t4 q5 => ?_))
 obtain ⟨B6, d7⟩ := t4
 refine la rfl rfl rfl rfl rfl ?_
 refine L_nil ?_
 refine Tsr hF rfl ?_
 refine lq rfl (ld_agg (ds := (key.map b8)) 2 rfl agg_all Try.underlying50 rfl (fwz (n := 32) kr sd) rfl rfl) rfl rfl ?_
 refine lq rfl (ld_agg (ds := (nonce.map b8)) 1 rfl agg_all Try.underlying86 rfl (fwz (n := 12) kr sd) rfl rfl) rfl rfl ?_
 refine lm rfl rfl rfl rfl rfl ?_
 refine lm rfl rfl rfl rfl rfl ?_
 refine L_op rfl (op_cn (fun w hw => atag_f key nonce aad (cxor key nonce (1#32) cs) A1 n1 c1 B6 n2 d7 w (hok_cons ((src_rd 3 rfl) w hw) (hok_cons ((src_row 0 rfl) w hw) (hok_nil w))) (by first | assumption | exact sd) (by first | assumption | exact sd) (by first | assumption | exact sd) (by first | assumption | exact sd) sd sd) (enters_of Try.func70 kr rfl) rfl rfl rfl rfl rfl (fun t8 q9 => ?_))
 refine L_op rfl (op_alloc (z := .agg ((List.replicate 16 0#8).map b8).toArray) (zs := ((List.replicate 16 0#8).map b8)) kr rfl rfl rfl rfl (fun g10 => ?_))
 refine L_op rfl (op_sto (n := 16) (vs := ((atag key nonce aad (cxor key nonce (1#32) cs)).map b8)) 0 rfl rfl kr (all8_one _) kr sd rfl rfl rfl rfl ?_)
 refine L_nil ?_
 refine Tsr hF rfl ?_
 refine lm rfl rfl rfl rfl rfl ?_
 refine lo rfl (pr_sla (l := 0) (u := 16) (m := 0) sd sd sd rfl Try.underlying113 (z := 1) kr rfl rfl rfl rfl) rfl rfl ?_
 refine L_op rfl (op_append (z := (b8 (0#8))) (size := 1) (bytes := 1) 1 rfl Try.underlying23 kr kr (by decide) (src_full (z := 1) 0 rfl sd sd sd) (all8_one _) sd sd rfl rfl rfl rfl rfl (fun A11 C12 => ?_))
 refine T_as 0 _ (.row (.slice A11 (n2 + 16) C12) 5 1 (n2 + 16) (((cxor key nonce (1#32) cs) ++ (atag key nonce aad (cxor key nonce (1#32) cs))).map b8)) rfl (by first | rfl | (congr 1; simp; done) | (simp only [List.map_append]; rfl) | (rw [List.map_append]; rfl)) ?_
 refine la rfl rfl rfl rfl rfl ?_
 refine la rfl rfl rfl rfl rfl ?_
 refine L_nil ?_
 refine T_ret ?_
 refine T_as 0 _ (.row (.slice A11 (n2 + 16) C12) 5 1 (n2 + 16) ((aseal key nonce aad cs).map b8)) rfl (by rw [aseal_def]) ?_
 exact T_fin (A11, C12) (by first | trivial | omega | (simp; done)) (res2 rfl rfl rfl) [0] ⟨by decide, rfl⟩ rfl
set_option maxHeartbeats 4000000 in
theorem seal_la_f (key : List (BitVec 8)) (nonce : List (BitVec 8)) (aad : List (BitVec 8)) (cs : List (BitVec 8)) (A1 : Option Addr) (n1 : Nat) (c1 : Nat) (A2 : Option Addr) (n2 : Nat) (c2 : Nat) (w : World) (hO : HOK [.rd A1 1 n1 c1 (aad.map b8), .rd A2 1 n2 c2 (cs.map b8)] w) (hk : key.length = 32) (hn : nonce.length = 12) (h1 : aad.length = n1) (h2 : cs.length = n2) (h3 : 65536 < n1) : Calls Try.prog 54 [(.agg (key.map b8).toArray), (.agg (nonce.map b8).toArray), (.slice A1 n1 c1), (.slice A2 n2 c2)].toArray w (Ret (T := Unit) [] w (fun _ => True) (fun _ => (.tuple [(.slice none 0 0), (.int .i64 ((5 : Nat) : Int))].toArray)) (fun _ => [])) := by
 have hF : Wid Fence.wide := wid_wide
 refine enter (c := _) Try.func54 rfl [] _ [.rd A1 1 n1 c1 (aad.map b8), .rd A2 1 n2 c2 (cs.map b8)] (by rw [Try.ntmps54]; rfl) (own_rds hO rfl) ?_
 rw [Try.ntmps54]
 refine T_re [(0, (.agg (key.map b8).toArray)), (1, (.agg (nonce.map b8).toArray)), (2, (.slice A1 n1 c1)), (3, (.slice A2 n2 c2))] (sc rfl (sc rfl (sc rfl (sc rfl sn)))) ?_
 refine T_he [0, 1] [.rd A1 1 n1 c1 (aad.map b8), .rd A2 1 n2 c2 (cs.map b8)] ⟨by decide, rfl⟩ ?_
 refine Tsr hF rfl ?_
 refine L_op rfl (op_box (zs := (key.map b8)) rfl rfl rfl rfl rfl (fun g1 => ?_))
 refine L_op rfl (op_box (zs := (nonce.map b8)) rfl rfl rfl rfl rfl (fun g2 => ?_))
 refine la rfl rfl rfl rfl rfl ?_
 refine la rfl rfl rfl rfl rfl ?_
 refine L_nil ?_
 refine T_seq ?_
 refine Tsr hF rfl ?_
 refine lm rfl rfl rfl rfl rfl ?_
 refine lo rfl (pr_len_sl Try.underlying23 rfl rfl) rfl rfl ?_
 refine lo rfl (pr_cmp (bo := .gtr) (nc_lt (a := 65536) (b := n1)) rfl rfl rfl rfl) rfl rfl ?_
 refine lm rfl rfl rfl rfl rfl ?_
 refine T_slot 15 (.bool (decide (65536 < n1))) (.bool true) rfl (congrArg _ (by simp; omega)) ?_
 refine L_skip rfl rfl rfl ?_
 refine L_skip rfl rfl rfl ?_
 refine L_skip rfl rfl rfl ?_
 refine lo rfl (pr_pick_t rfl rfl rfl) rfl rfl ?_
 refine L_nil ?_
 refine T_cond_t rfl ?_
 refine Tsr hF rfl ?_
 refine la rfl rfl rfl rfl rfl ?_
 refine la rfl rfl rfl rfl rfl ?_
 refine L_nil ?_
 refine T_ret ?_
 exact T_fin () (by first | trivial | omega | (simp; done)) (res2 rfl rfl rfl) [] ⟨by decide, rfl⟩ rfl
set_option maxHeartbeats 4000000 in
theorem seal_lp_f (key : List (BitVec 8)) (nonce : List (BitVec 8)) (aad : List (BitVec 8)) (cs : List (BitVec 8)) (A1 : Option Addr) (n1 : Nat) (c1 : Nat) (A2 : Option Addr) (n2 : Nat) (c2 : Nat) (w : World) (hO : HOK [.rd A1 1 n1 c1 (aad.map b8), .rd A2 1 n2 c2 (cs.map b8)] w) (hk : key.length = 32) (hn : nonce.length = 12) (h1 : aad.length = n1) (h2 : cs.length = n2) (h3 : n1 ≤ 65536) (h4 : 65536 < n2) : Calls Try.prog 54 [(.agg (key.map b8).toArray), (.agg (nonce.map b8).toArray), (.slice A1 n1 c1), (.slice A2 n2 c2)].toArray w (Ret (T := Unit) [] w (fun _ => True) (fun _ => (.tuple [(.slice none 0 0), (.int .i64 ((5 : Nat) : Int))].toArray)) (fun _ => [])) := by
 have hF : Wid Fence.wide := wid_wide
 refine enter (c := _) Try.func54 rfl [] _ [.rd A1 1 n1 c1 (aad.map b8), .rd A2 1 n2 c2 (cs.map b8)] (by rw [Try.ntmps54]; rfl) (own_rds hO rfl) ?_
 rw [Try.ntmps54]
 refine T_re [(0, (.agg (key.map b8).toArray)), (1, (.agg (nonce.map b8).toArray)), (2, (.slice A1 n1 c1)), (3, (.slice A2 n2 c2))] (sc rfl (sc rfl (sc rfl (sc rfl sn)))) ?_
 refine T_he [0, 1] [.rd A1 1 n1 c1 (aad.map b8), .rd A2 1 n2 c2 (cs.map b8)] ⟨by decide, rfl⟩ ?_
 refine Tsr hF rfl ?_
 refine L_op rfl (op_box (zs := (key.map b8)) rfl rfl rfl rfl rfl (fun g1 => ?_))
 refine L_op rfl (op_box (zs := (nonce.map b8)) rfl rfl rfl rfl rfl (fun g2 => ?_))
 refine la rfl rfl rfl rfl rfl ?_
 refine la rfl rfl rfl rfl rfl ?_
 refine L_nil ?_
 refine T_seq ?_
 refine Tsr hF rfl ?_
 refine lm rfl rfl rfl rfl rfl ?_
 refine lo rfl (pr_len_sl Try.underlying23 rfl rfl) rfl rfl ?_
 refine lo rfl (pr_cmp (bo := .gtr) (nc_lt (a := 65536) (b := n1)) rfl rfl rfl rfl) rfl rfl ?_
 refine lm rfl rfl rfl rfl rfl ?_
 refine T_slot 15 (.bool (decide (65536 < n1))) (.bool false) rfl (congrArg _ (by simp; omega)) ?_
 refine lm rfl rfl rfl rfl rfl ?_
 refine lo rfl (pr_len_sl Try.underlying23 rfl rfl) rfl rfl ?_
 refine lo rfl (pr_cmp (bo := .gtr) (nc_lt (a := 65536) (b := n2)) rfl rfl rfl rfl) rfl rfl ?_
 refine lo rfl (pr_pick_f rfl rfl rfl) rfl rfl ?_
 refine L_nil ?_
 refine T_cond_yes (t := decide (65536 < n2)) rfl (by simp; omega) ?_
 refine Tsr hF rfl ?_
 refine la rfl rfl rfl rfl rfl ?_
 refine la rfl rfl rfl rfl rfl ?_
 refine L_nil ?_
 refine T_ret ?_
 exact T_fin () (by first | trivial | omega | (simp; done)) (res2 rfl rfl rfl) [] ⟨by decide, rfl⟩ rfl
end Go.Proofs.Ytlplpmkdebemnaa
namespace Go.Proofs.Ytlplpmkdebemnaa
set_option linter.unusedVariables false
set_option linter.unusedSimpArgs false
set_option linter.unnecessarySimpa false
set_option maxRecDepth 100000
open Go.RowKit Bv Fw

set_option maxRecDepth 100000 in
set_option maxHeartbeats 4000000 in
theorem open_ok_f (key : List (BitVec 8)) (nonce : List (BitVec 8)) (aad : List (BitVec 8)) (cs : List (BitVec 8)) (A1 : Option Addr) (n1 : Nat) (c1 : Nat) (A2 : Option Addr) (n2 : Nat) (c2 : Nat) (w : World) (hO : HOK [.rd A1 1 n1 c1 (aad.map b8), .rd A2 1 n2 c2 (cs.map b8)] w) (hk : key.length = 32) (hn : nonce.length = 12) (h1 : aad.length = n1) (h2 : cs.length = n2) (h3 : n1 ≤ 65536) (h4 : 16 ≤ n2) (h5 : n2 ≤ 65552) (hg : agood key nonce aad cs) : Calls Try.prog 56 [(.agg (key.map b8).toArray), (.agg (nonce.map b8).toArray), (.slice A1 n1 c1), (.slice A2 n2 c2)].toArray w (Ret (T := Option Addr × Nat) [] w (fun ⟨B, d⟩ => True) (fun ⟨B, d⟩ => (.tuple [(.slice B (n2 - 16) d), (.int .i64 ((0 : Nat) : Int))].toArray)) (fun ⟨B, d⟩ => [.row (.slice B (n2 - 16) d) 5 1 (n2 - 16) ((aplain key nonce cs).map b8)])) := by
 have htl := atag_len key nonce aad (List.take (n2 - 16) cs)
 have hcl := cxor_len key nonce 1#32 (List.take (n2 - 16) cs)
 have hF : Wid Fence.wide := wid_wide
 refine enter (c := _) Try.func56 rfl [] _ [.rd A1 1 n1 c1 (aad.map b8), .rd A2 1 n2 c2 (cs.map b8)] (by rw [Try.ntmps56]; rfl) (own_rds hO rfl) ?_
 rw [Try.ntmps56]
 refine T_re [(0, (.agg (key.map b8).toArray)), (1, (.agg (nonce.map b8).toArray)), (2, (.slice A1 n1 c1)), (3, (.slice A2 n2 c2))] (sc rfl (sc rfl (sc rfl (sc rfl sn)))) ?_
 refine T_he [0, 1] [.rd A1 1 n1 c1 (aad.map b8), .rd A2 1 n2 c2 (cs.map b8)] ⟨by decide, rfl⟩ ?_
 refine Tsr hF rfl ?_
 refine L_op rfl (op_box (zs := (key.map b8)) rfl rfl rfl rfl rfl (fun g1 => ?_))
 refine L_op rfl (op_box (zs := (nonce.map b8)) rfl rfl rfl rfl rfl (fun g2 => ?_))
 refine la rfl rfl rfl rfl rfl ?_
 refine la rfl rfl rfl rfl rfl ?_
 refine L_nil ?_
 refine Tsr hF rfl ?_
 refine lm rfl rfl rfl rfl rfl ?_
 refine lo rfl (pr_len_sl Try.underlying23 rfl rfl) rfl rfl ?_
 refine lo rfl (pr_sub (ns_i64 (a := n2) (b := 16) sd sd) rfl rfl rfl) rfl rfl ?_
 refine la rfl rfl rfl rfl rfl ?_
 refine L_nil ?_
 refine T_seq ?_
 refine T_block ?_
 refine Tsr hF rfl ?_
 refine lm rfl rfl rfl rfl rfl ?_
 refine lo rfl (pr_len_sl Try.underlying23 rfl rfl) rfl rfl ?_
 refine lo rfl (pr_cmp (bo := .gtr) (nc_lt (a := 65536) (b := n1)) rfl rfl rfl rfl) rfl rfl ?_
 refine lm rfl rfl rfl rfl rfl ?_
 refine T_slot 19 (.bool (decide (65536 < n1))) (.bool false) rfl (congrArg _ (by simp; omega)) ?_
 refine lm rfl rfl rfl rfl rfl ?_
 refine lo rfl (pr_cmp (bo := .gtr) (nc_lt (a := 65536) (b := n2 - 16)) rfl rfl rfl rfl) rfl rfl ?_
 refine lo rfl (pr_pick_f rfl rfl rfl) rfl rfl ?_
 refine la rfl rfl rfl rfl rfl ?_
 refine L_nil ?_
 refine T_cond_no (t := decide (65536 < n2 - 16)) rfl (by simp; omega) ?_
 refine Tsr hF rfl ?_
 refine lm rfl rfl rfl rfl rfl ?_
 refine lo rfl (pr_cmp (bo := .lss) (nc_lt (a := n2 - 16) (b := 0)) rfl rfl rfl rfl) rfl rfl ?_
 refine la rfl rfl rfl rfl rfl ?_
 refine L_nil ?_
 refine T_cond_f rfl ?_
 refine T_skip ?_
 refine T_seq ?_
 refine T_seq ?_
 refine T_regD [.blk g2 86 (nonce.map b8), .blk g1 50 (key.map b8), .rd A1 1 n1 c1 (aad.map b8), .rd A2 1 n2 c2 (cs.map b8)] 9 9 #[false, false, false, false, false, false, false, false, false] hF kr kr ?_
 refine D_pure (i := 2) [0, 1, 2, 3] rfl kr rfl (pr_move rfl rfl) (.inr rfl) rfl rfl ?_
 refine D_pure (i := 3) [0, 1, 2, 3] rfl kr rfl (pr_move rfl rfl) (.inr rfl) rfl rfl ?_
 refine D_pure (i := 4) [0, 1, 2, 3] rfl kr rfl (pr_move rfl rfl) (.inr rfl) rfl rfl ?_
 refine D_take (i := 0) [0, 1, 2, 3] rfl kr rfl (ld_agg (ds := (key.map b8)) 1 rfl agg_all Try.underlying50 rfl (fwz (n := 32) kr sd) rfl rfl) rfl rfl rfl ?_
 refine D_take (i := 1) [0, 1, 2, 3] rfl kr rfl (ld_agg (ds := (nonce.map b8)) 0 rfl agg_all Try.underlying86 rfl (fwz (n := 12) kr sd) rfl rfl) rfl rfl rfl ?_
 refine D_join (T := Nat) (fun _ => True) (fun g7 => [(3, (.slice A2 n2 c2)), (4, (.pointer (some ⟨g1, 0, none⟩))), (5, (.pointer (some ⟨g2, 0, none⟩))), (10, (.int .i64 ((n2 - 16 : Nat) : Int))), (11, (.pointer (some ⟨g7, 0, none⟩)))]) (fun g7 => [.blk g7 113 ((atag key nonce aad (List.take (n2 - 16) cs)).map b8), .blk g2 86 (nonce.map b8), .blk g1 50 (key.map b8), .rd A1 1 n1 c1 (aad.map b8), .rd A2 1 n2 c2 (cs.map b8)]) ?_ ?_
 ·
  refine D_all [5, 7] kr (by simp) ⟨⟨_, rfl, rfl, ?_⟩, ⟨_, rfl, rfl, ?_⟩, trivial⟩
  ·
   refine id (op_slice_rd (l := 0) (u := n2 - 16) 3 rfl sd sd Try.underlying23 kr rfl rfl rfl ⟨_, rfl⟩ rfl rfl (fun B8 => ?_))
   refine T_as 0 _ (.rd B8 1 (n2 - 16) c2 ((List.take (n2 - 16) cs).map b8)) rfl (by congr 1; simp [List.map_take, List.map_drop] <;> omega) ?_
   refine T_slot 31 _ (.slice B8 (n2 - 16) c2) rfl (by congr 1) ?_
   refine D_on [1, 2, 3, 4] rfl ?_
   refine D_all [6, 7] kr (by simp) ⟨⟨_, rfl, rfl, ?_⟩, ⟨_, rfl, rfl, ?_⟩, trivial⟩
   ·
    refine id (op_cn (fun w hw => atag_f key nonce aad (List.take (n2 - 16) cs) A1 n1 c1 B8 (n2 - 16) c2 w (hok_cons ((src_rd 3 rfl) w hw) (hok_cons ((src_rd 0 rfl) w hw) (hok_nil w))) (by first | assumption | exact sd) (by first | assumption | exact sd) (by first | assumption | exact sd) (by first | assumption | exact sd) sd sd) (enters_of Try.func70 kr rfl) rfl rfl rfl rfl rfl (fun t9 q10 => ?_))
    refine D_on [1, 2, 3, 4] rfl ?_
    refine D_one 7 _ rfl kr rfl (op_alloc (z := .agg ((List.replicate 16 0#8).map b8).toArray) (zs := ((List.replicate 16 0#8).map b8)) kr rfl rfl rfl rfl (fun g11 => ?_))
    refine D_on [2, 3, 4, 5] rfl ?_
    refine D_one 8 _ rfl kr rfl (op_sto (n := 16) (vs := ((atag key nonce aad (List.take (n2 - 16) cs)).map b8)) 0 rfl rfl kr (all8_one _) kr sd rfl rfl rfl rfl ?_)
    refine D_on [2, 3, 4, 5] rfl ?_
    refine D_done kr ?_
    exact T_meet g11 trivial (sc rfl (sc rfl (sc rfl (sc rfl (sc rfl sn))))) [0, 2, 3, 4, 5] ⟨by decide, rfl⟩
   ·
    refine id (op_alloc (z := .agg ((List.replicate 16 0#8).map b8).toArray) (zs := ((List.replicate 16 0#8).map b8)) kr rfl rfl rfl rfl (fun g12 => ?_))
    refine D_on [2, 3, 4, 5] rfl ?_
    refine D_one 6 _ rfl kr rfl (op_cn (fun w hw => atag_f key nonce aad (List.take (n2 - 16) cs) A1 n1 c1 B8 (n2 - 16) c2 w (hok_cons ((src_rd 4 rfl) w hw) (hok_cons ((src_rd 1 rfl) w hw) (hok_nil w))) (by first | assumption | exact sd) (by first | assumption | exact sd) (by first | assumption | exact sd) (by first | assumption | exact sd) sd sd) (enters_of Try.func70 kr rfl) rfl rfl rfl rfl rfl (fun t13 q14 => ?_))
    refine D_on [2, 3, 4, 5] rfl ?_
    refine D_one 8 _ rfl kr rfl (op_sto (n := 16) (vs := ((atag key nonce aad (List.take (n2 - 16) cs)).map b8)) 0 rfl rfl kr (all8_one _) kr sd rfl rfl rfl rfl ?_)
    refine D_on [2, 3, 4, 5] rfl ?_
    refine D_done kr ?_
    exact T_meet g12 trivial (sc rfl (sc rfl (sc rfl (sc rfl (sc rfl sn))))) [0, 2, 3, 4, 5] ⟨by decide, rfl⟩
  ·
   refine id (op_alloc (z := .agg ((List.replicate 16 0#8).map b8).toArray) (zs := ((List.replicate 16 0#8).map b8)) kr rfl rfl rfl rfl (fun g15 => ?_))
   refine D_on [1, 2, 3, 4] rfl ?_
   refine D_one 5 _ rfl kr rfl (op_slice_rd (l := 0) (u := n2 - 16) 4 rfl sd sd Try.underlying23 kr rfl rfl rfl ⟨_, rfl⟩ rfl rfl (fun B16 => ?_))
   refine T_as 0 _ (.rd B16 1 (n2 - 16) c2 ((List.take (n2 - 16) cs).map b8)) rfl (by congr 1; simp [List.map_take, List.map_drop] <;> omega) ?_
   refine T_slot 31 _ (.slice B16 (n2 - 16) c2) rfl (by congr 1) ?_
   refine D_on [2, 3, 4, 5] rfl ?_
   refine D_one 6 _ rfl kr rfl (op_cn (fun w hw => atag_f key nonce aad (List.take (n2 - 16) cs) A1 n1 c1 B16 (n2 - 16) c2 w (hok_cons ((src_rd 4 rfl) w hw) (hok_cons ((src_rd 0 rfl) w hw) (hok_nil w))) (by first | assumption | exact sd) (by first | assumption | exact sd) (by first | assumption | exact sd) (by first | assumption | exact sd) sd sd) (enters_of Try.func70 kr rfl) rfl rfl rfl rfl rfl (fun t17 q18 => ?_))
   refine D_on [2, 3, 4, 5] rfl ?_
   refine D_one 8 _ rfl kr rfl (op_sto (n := 16) (vs := ((atag key nonce aad (List.take (n2 - 16) cs)).map b8)) 1 rfl rfl kr (all8_one _) kr sd rfl rfl rfl rfl ?_)
   refine D_on [2, 3, 4, 5] rfl ?_
   refine D_done kr ?_
   exact T_meet g15 trivial (sc rfl (sc rfl (sc rfl (sc rfl (sc rfl sn))))) [0, 2, 3, 4, 5] ⟨by decide, rfl⟩
 ·
  rintro g7 -
  refine T_re [(3, (.slice A2 n2 c2)), (4, (.pointer (some ⟨g1, 0, none⟩))), (5, (.pointer (some ⟨g2, 0, none⟩))), (10, (.int .i64 ((n2 - 16 : Nat) : Int))), (11, (.pointer (some ⟨g7, 0, none⟩)))] (sc rfl (sc rfl (sc rfl (sc rfl (sc rfl sn))))) ?_
  refine T_he [0, 1, 2, 3, 4] [.blk g7 113 ((atag key nonce aad (List.take (n2 - 16) cs)).map b8), .blk g2 86 (nonce.map b8), .blk g1 50 (key.map b8), .rd A1 1 n1 c1 (aad.map b8), .rd A2 1 n2 c2 (cs.map b8)] ⟨by decide, rfl⟩ ?_
  refine T_seq ?_
  refine T_regD [.blk g7 113 ((atag key nonce aad (List.take (n2 - 16) cs)).map b8), .blk g2 86 (nonce.map b8), .blk g1 50 (key.map b8), .rd A1 1 n1 c1 (aad.map b8), .rd A2 1 n2 c2 (cs.map b8)] 6 6 #[false, false, false, false, false, false] hF kr kr ?_
  refine D_pure (i := 0) [0, 1, 2, 3, 4] rfl kr rfl (pr_sla (l := 0) (u := 16) (m := 0) sd sd sd rfl Try.underlying113 (z := 1) kr rfl rfl rfl rfl) (.inr rfl) rfl rfl ?_
  refine D_pure (i := 1) [0, 1, 2, 3, 4] rfl kr rfl (pr_move rfl rfl) (.inr rfl) rfl rfl ?_
  refine D_pure (i := 2) [0, 1, 2, 3, 4] rfl kr rfl (pr_move rfl rfl) (.inr rfl) rfl rfl ?_
  refine D_one 3 _ rfl kr rfl (op_slice_rd (l := n2 - 16) (u := n2) 4 rfl sd sd Try.underlying23 kr rfl rfl ⟨_, rfl⟩ rfl rfl rfl (fun B19 => ?_))
  refine T_as 0 _ (.rd B19 1 (n2 - (n2 - 16)) (c2 - (n2 - 16)) ((List.drop (n2 - 16) cs).map b8)) rfl (by congr 1; first | rfl | (rw [List.take_of_length_le (by simp; omega)]; simp)) ?_
  refine T_as 0 _ (.rd B19 1 16 (c2 - (n2 - 16)) ((List.drop (n2 - 16) cs).map b8)) rfl (by rw [show n2 - (n2 - 16) = 16 by omega]) ?_
  refine T_slot 36 (.slice B19 (n2 - (n2 - 16)) (c2 - (n2 - 16))) (.slice B19 16 (c2 - (n2 - 16))) rfl (by rw [show n2 - (n2 - 16) = 16 by omega]) ?_
  refine D_on [1, 2, 3, 4, 5] rfl ?_
  refine D_one 4 _ rfl kr rfl (op_cn (fun w hw => ctequal_f (atag key nonce aad (List.take (n2 - 16) cs)) (some ⟨g7, 0, none⟩) 16 16 (List.drop (n2 - 16) cs) B19 (c2 - (n2 - 16)) w (hok_cons ((src_full (z := 1) 1 rfl sd sd sd) w hw) (hok_cons ((src_rd 0 rfl) w hw) (hok_nil w))) sd sd sd) (enters_of Try.func72 kr rfl) rfl rfl rfl rfl rfl (fun t20 q21 => ?_))
  refine D_on [1, 2, 3, 4, 5] rfl ?_
  refine D_pure (i := 5) [1, 2, 3, 4, 5] rfl kr rfl (pr_cmp (bo := .eql) (n64_beq (eqw (atag key nonce aad (List.take (n2 - 16) cs)) (List.drop (n2 - 16) cs)) (0#64)) rfl rfl rfl rfl) (.inr rfl) rfl rfl ?_
  refine D_done kr ?_
  refine T_cond_no (t := ((eqw (atag key nonce aad (List.take (n2 - 16) cs)) (List.drop (n2 - 16) cs)) == 0#64)) rfl (eqw_yes ((agood_iff key nonce aad cs n2 h2).1 hg)) ?_
  refine T_skip ?_
  refine T_seq ?_
  refine T_regD [.rd B19 1 16 (c2 - (n2 - 16)) ((List.drop (n2 - 16) cs).map b8), .blk g7 113 ((atag key nonce aad (List.take (n2 - 16) cs)).map b8), .blk g2 86 (nonce.map b8), .blk g1 50 (key.map b8), .rd A1 1 n1 c1 (aad.map b8), .rd A2 1 n2 c2 (cs.map b8)] 8 8 #[false, false, false, false, false, false, false, false] hF kr kr ?_
  refine D_pure (i := 2) [0, 1, 2, 3, 4, 5] rfl kr rfl (pr_move rfl rfl) (.inr rfl) rfl rfl ?_
  refine D_pure (i := 3) [0, 1, 2, 3, 4, 5] rfl kr rfl (pr_move rfl rfl) (.inr rfl) rfl rfl ?_
  refine D_take (i := 0) [0, 1, 2, 3, 4, 5] rfl kr rfl (ld_agg (ds := (key.map b8)) 3 rfl agg_all Try.underlying50 rfl (fwz (n := 32) kr sd) rfl rfl) rfl rfl rfl ?_
  refine D_take (i := 1) [0, 1, 2, 3, 4, 5] rfl kr rfl (ld_agg (ds := (nonce.map b8)) 2 rfl agg_all Try.underlying86 rfl (fwz (n := 12) kr sd) rfl rfl) rfl rfl rfl ?_
  refine D_one 4 _ rfl kr rfl (op_slice_rd (l := 0) (u := n2 - 16) 5 rfl sd sd Try.underlying23 kr rfl rfl rfl ⟨_, rfl⟩ rfl rfl (fun B22 => ?_))
  refine T_as 0 _ (.rd B22 1 (n2 - 16) c2 ((List.take (n2 - 16) cs).map b8)) rfl (by congr 1; simp [List.map_take, List.map_drop] <;> omega) ?_
  refine T_slot 43 _ (.slice B22 (n2 - 16) c2) rfl (by congr 1) ?_
  refine D_on [1, 2, 3, 4, 5, 6] rfl ?_
  refine D_one 5 _ rfl kr rfl (op_cn (fun w hw => xor_f key nonce (1#32) (List.take (n2 - 16) cs) B22 (n2 - 16) c2 w (hok_cons ((src_rd 0 rfl) w hw) (hok_nil w)) (by first | assumption | exact sd) (by first | assumption | exact sd) (by first | assumption | omega | (simp; done) | (simp; omega)) sd) (enters_of Try.func69 kr rfl) rfl rfl rfl rfl rfl (fun t23 q24 => ?_))
  obtain ⟨B25, d26⟩ := t23
  refine D_on [2, 3, 4, 5, 6, 7] rfl ?_
  refine D_pure (i := 6) [2, 3, 4, 5, 6, 7] rfl kr rfl (pr_assign rfl rfl) (.inr rfl) rfl rfl ?_
  refine D_pure (i := 7) [2, 3, 4, 5, 6, 7] rfl kr rfl (pr_assign rfl rfl) (.inr rfl) rfl rfl ?_
  refine D_done kr ?_
  refine T_ret ?_
  refine T_as 0 _ (.row (.slice B25 (n2 - 16) d26) 5 1 (n2 - 16) ((aplain key nonce cs).map b8)) rfl (by rw [aplain_def key nonce cs n2 h2]) ?_
  exact T_fin (B25, d26) (by first | trivial | omega | (simp; done)) (res2 rfl rfl rfl) [0] ⟨by decide, rfl⟩ rfl
set_option maxRecDepth 100000 in
set_option maxHeartbeats 4000000 in
theorem open_bad_f (key : List (BitVec 8)) (nonce : List (BitVec 8)) (aad : List (BitVec 8)) (cs : List (BitVec 8)) (A1 : Option Addr) (n1 : Nat) (c1 : Nat) (A2 : Option Addr) (n2 : Nat) (c2 : Nat) (w : World) (hO : HOK [.rd A1 1 n1 c1 (aad.map b8), .rd A2 1 n2 c2 (cs.map b8)] w) (hk : key.length = 32) (hn : nonce.length = 12) (h1 : aad.length = n1) (h2 : cs.length = n2) (h3 : n1 ≤ 65536) (h4 : 16 ≤ n2) (h5 : n2 ≤ 65552) (hg : ¬ agood key nonce aad cs) : Calls Try.prog 56 [(.agg (key.map b8).toArray), (.agg (nonce.map b8).toArray), (.slice A1 n1 c1), (.slice A2 n2 c2)].toArray w (Ret (T := Unit) [] w (fun _ => True) (fun _ => (.tuple [(.slice none 0 0), (.int .i64 ((6 : Nat) : Int))].toArray)) (fun _ => [])) := by
 have htl := atag_len key nonce aad (List.take (n2 - 16) cs)
 have hcl := cxor_len key nonce 1#32 (List.take (n2 - 16) cs)
 have hF : Wid Fence.wide := wid_wide
 refine enter (c := _) Try.func56 rfl [] _ [.rd A1 1 n1 c1 (aad.map b8), .rd A2 1 n2 c2 (cs.map b8)] (by rw [Try.ntmps56]; rfl) (own_rds hO rfl) ?_
 rw [Try.ntmps56]
 refine T_re [(0, (.agg (key.map b8).toArray)), (1, (.agg (nonce.map b8).toArray)), (2, (.slice A1 n1 c1)), (3, (.slice A2 n2 c2))] (sc rfl (sc rfl (sc rfl (sc rfl sn)))) ?_
 refine T_he [0, 1] [.rd A1 1 n1 c1 (aad.map b8), .rd A2 1 n2 c2 (cs.map b8)] ⟨by decide, rfl⟩ ?_
 refine Tsr hF rfl ?_
 refine L_op rfl (op_box (zs := (key.map b8)) rfl rfl rfl rfl rfl (fun g1 => ?_))
 refine L_op rfl (op_box (zs := (nonce.map b8)) rfl rfl rfl rfl rfl (fun g2 => ?_))
 refine la rfl rfl rfl rfl rfl ?_
 refine la rfl rfl rfl rfl rfl ?_
 refine L_nil ?_
 refine Tsr hF rfl ?_
 refine lm rfl rfl rfl rfl rfl ?_
 refine lo rfl (pr_len_sl Try.underlying23 rfl rfl) rfl rfl ?_
 refine lo rfl (pr_sub (ns_i64 (a := n2) (b := 16) sd sd) rfl rfl rfl) rfl rfl ?_
 refine la rfl rfl rfl rfl rfl ?_
 refine L_nil ?_
 refine T_seq ?_
 refine T_block ?_
 refine Tsr hF rfl ?_
 refine lm rfl rfl rfl rfl rfl ?_
 refine lo rfl (pr_len_sl Try.underlying23 rfl rfl) rfl rfl ?_
 refine lo rfl (pr_cmp (bo := .gtr) (nc_lt (a := 65536) (b := n1)) rfl rfl rfl rfl) rfl rfl ?_
 refine lm rfl rfl rfl rfl rfl ?_
 refine T_slot 19 (.bool (decide (65536 < n1))) (.bool false) rfl (congrArg _ (by simp; omega)) ?_
 refine lm rfl rfl rfl rfl rfl ?_
 refine lo rfl (pr_cmp (bo := .gtr) (nc_lt (a := 65536) (b := n2 - 16)) rfl rfl rfl rfl) rfl rfl ?_
 refine lo rfl (pr_pick_f rfl rfl rfl) rfl rfl ?_
 refine la rfl rfl rfl rfl rfl ?_
 refine L_nil ?_
 refine T_cond_no (t := decide (65536 < n2 - 16)) rfl (by simp; omega) ?_
 refine Tsr hF rfl ?_
 refine lm rfl rfl rfl rfl rfl ?_
 refine lo rfl (pr_cmp (bo := .lss) (nc_lt (a := n2 - 16) (b := 0)) rfl rfl rfl rfl) rfl rfl ?_
 refine la rfl rfl rfl rfl rfl ?_
 refine L_nil ?_
 refine T_cond_f rfl ?_
 refine T_skip ?_
 refine T_seq ?_
 refine T_seq ?_
 refine T_regD [.blk g2 86 (nonce.map b8), .blk g1 50 (key.map b8), .rd A1 1 n1 c1 (aad.map b8), .rd A2 1 n2 c2 (cs.map b8)] 9 9 #[false, false, false, false, false, false, false, false, false] hF kr kr ?_
 refine D_pure (i := 2) [0, 1, 2, 3] rfl kr rfl (pr_move rfl rfl) (.inr rfl) rfl rfl ?_
 refine D_pure (i := 3) [0, 1, 2, 3] rfl kr rfl (pr_move rfl rfl) (.inr rfl) rfl rfl ?_
 refine D_pure (i := 4) [0, 1, 2, 3] rfl kr rfl (pr_move rfl rfl) (.inr rfl) rfl rfl ?_
 refine D_take (i := 0) [0, 1, 2, 3] rfl kr rfl (ld_agg (ds := (key.map b8)) 1 rfl agg_all Try.underlying50 rfl (fwz (n := 32) kr sd) rfl rfl) rfl rfl rfl ?_
 refine D_take (i := 1) [0, 1, 2, 3] rfl kr rfl (ld_agg (ds := (nonce.map b8)) 0 rfl agg_all Try.underlying86 rfl (fwz (n := 12) kr sd) rfl rfl) rfl rfl rfl ?_
 refine D_join (T := Nat) (fun _ => True) (fun g7 => [(3, (.slice A2 n2 c2)), (4, (.pointer (some ⟨g1, 0, none⟩))), (5, (.pointer (some ⟨g2, 0, none⟩))), (10, (.int .i64 ((n2 - 16 : Nat) : Int))), (11, (.pointer (some ⟨g7, 0, none⟩)))]) (fun g7 => [.blk g7 113 ((atag key nonce aad (List.take (n2 - 16) cs)).map b8), .blk g2 86 (nonce.map b8), .blk g1 50 (key.map b8), .rd A1 1 n1 c1 (aad.map b8), .rd A2 1 n2 c2 (cs.map b8)]) ?_ ?_
 ·
  refine D_all [5, 7] kr (by simp) ⟨⟨_, rfl, rfl, ?_⟩, ⟨_, rfl, rfl, ?_⟩, trivial⟩
  ·
   refine id (op_slice_rd (l := 0) (u := n2 - 16) 3 rfl sd sd Try.underlying23 kr rfl rfl rfl ⟨_, rfl⟩ rfl rfl (fun B8 => ?_))
   refine T_as 0 _ (.rd B8 1 (n2 - 16) c2 ((List.take (n2 - 16) cs).map b8)) rfl (by congr 1; simp [List.map_take, List.map_drop] <;> omega) ?_
   refine T_slot 31 _ (.slice B8 (n2 - 16) c2) rfl (by congr 1) ?_
   refine D_on [1, 2, 3, 4] rfl ?_
   refine D_all [6, 7] kr (by simp) ⟨⟨_, rfl, rfl, ?_⟩, ⟨_, rfl, rfl, ?_⟩, trivial⟩
   ·
    refine id (op_cn (fun w hw => atag_f key nonce aad (List.take (n2 - 16) cs) A1 n1 c1 B8 (n2 - 16) c2 w (hok_cons ((src_rd 3 rfl) w hw) (hok_cons ((src_rd 0 rfl) w hw) (hok_nil w))) (by first | assumption | exact sd) (by first | assumption | exact sd) (by first | assumption | exact sd) (by first | assumption | exact sd) sd sd) (enters_of Try.func70 kr rfl) rfl rfl rfl rfl rfl (fun t9 q10 => ?_))
    refine D_on [1, 2, 3, 4] rfl ?_
    refine D_one 7 _ rfl kr rfl (op_alloc (z := .agg ((List.replicate 16 0#8).map b8).toArray) (zs := ((List.replicate 16 0#8).map b8)) kr rfl rfl rfl rfl (fun g11 => ?_))
    refine D_on [2, 3, 4, 5] rfl ?_
    refine D_one 8 _ rfl kr rfl (op_sto (n := 16) (vs := ((atag key nonce aad (List.take (n2 - 16) cs)).map b8)) 0 rfl rfl kr (all8_one _) kr sd rfl rfl rfl rfl ?_)
    refine D_on [2, 3, 4, 5] rfl ?_
    refine D_done kr ?_
    exact T_meet g11 trivial (sc rfl (sc rfl (sc rfl (sc rfl (sc rfl sn))))) [0, 2, 3, 4, 5] ⟨by decide, rfl⟩
   ·
    refine id (op_alloc (z := .agg ((List.replicate 16 0#8).map b8).toArray) (zs := ((List.replicate 16 0#8).map b8)) kr rfl rfl rfl rfl (fun g12 => ?_))
    refine D_on [2, 3, 4, 5] rfl ?_
    refine D_one 6 _ rfl kr rfl (op_cn (fun w hw => atag_f key nonce aad (List.take (n2 - 16) cs) A1 n1 c1 B8 (n2 - 16) c2 w (hok_cons ((src_rd 4 rfl) w hw) (hok_cons ((src_rd 1 rfl) w hw) (hok_nil w))) (by first | assumption | exact sd) (by first | assumption | exact sd) (by first | assumption | exact sd) (by first | assumption | exact sd) sd sd) (enters_of Try.func70 kr rfl) rfl rfl rfl rfl rfl (fun t13 q14 => ?_))
    refine D_on [2, 3, 4, 5] rfl ?_
    refine D_one 8 _ rfl kr rfl (op_sto (n := 16) (vs := ((atag key nonce aad (List.take (n2 - 16) cs)).map b8)) 0 rfl rfl kr (all8_one _) kr sd rfl rfl rfl rfl ?_)
    refine D_on [2, 3, 4, 5] rfl ?_
    refine D_done kr ?_
    exact T_meet g12 trivial (sc rfl (sc rfl (sc rfl (sc rfl (sc rfl sn))))) [0, 2, 3, 4, 5] ⟨by decide, rfl⟩
  ·
   refine id (op_alloc (z := .agg ((List.replicate 16 0#8).map b8).toArray) (zs := ((List.replicate 16 0#8).map b8)) kr rfl rfl rfl rfl (fun g15 => ?_))
   refine D_on [1, 2, 3, 4] rfl ?_
   refine D_one 5 _ rfl kr rfl (op_slice_rd (l := 0) (u := n2 - 16) 4 rfl sd sd Try.underlying23 kr rfl rfl rfl ⟨_, rfl⟩ rfl rfl (fun B16 => ?_))
   refine T_as 0 _ (.rd B16 1 (n2 - 16) c2 ((List.take (n2 - 16) cs).map b8)) rfl (by congr 1; simp [List.map_take, List.map_drop] <;> omega) ?_
   refine T_slot 31 _ (.slice B16 (n2 - 16) c2) rfl (by congr 1) ?_
   refine D_on [2, 3, 4, 5] rfl ?_
   refine D_one 6 _ rfl kr rfl (op_cn (fun w hw => atag_f key nonce aad (List.take (n2 - 16) cs) A1 n1 c1 B16 (n2 - 16) c2 w (hok_cons ((src_rd 4 rfl) w hw) (hok_cons ((src_rd 0 rfl) w hw) (hok_nil w))) (by first | assumption | exact sd) (by first | assumption | exact sd) (by first | assumption | exact sd) (by first | assumption | exact sd) sd sd) (enters_of Try.func70 kr rfl) rfl rfl rfl rfl rfl (fun t17 q18 => ?_))
   refine D_on [2, 3, 4, 5] rfl ?_
   refine D_one 8 _ rfl kr rfl (op_sto (n := 16) (vs := ((atag key nonce aad (List.take (n2 - 16) cs)).map b8)) 1 rfl rfl kr (all8_one _) kr sd rfl rfl rfl rfl ?_)
   refine D_on [2, 3, 4, 5] rfl ?_
   refine D_done kr ?_
   exact T_meet g15 trivial (sc rfl (sc rfl (sc rfl (sc rfl (sc rfl sn))))) [0, 2, 3, 4, 5] ⟨by decide, rfl⟩
 ·
  rintro g7 -
  refine T_re [(3, (.slice A2 n2 c2)), (4, (.pointer (some ⟨g1, 0, none⟩))), (5, (.pointer (some ⟨g2, 0, none⟩))), (10, (.int .i64 ((n2 - 16 : Nat) : Int))), (11, (.pointer (some ⟨g7, 0, none⟩)))] (sc rfl (sc rfl (sc rfl (sc rfl (sc rfl sn))))) ?_
  refine T_he [0, 1, 2, 3, 4] [.blk g7 113 ((atag key nonce aad (List.take (n2 - 16) cs)).map b8), .blk g2 86 (nonce.map b8), .blk g1 50 (key.map b8), .rd A1 1 n1 c1 (aad.map b8), .rd A2 1 n2 c2 (cs.map b8)] ⟨by decide, rfl⟩ ?_
  refine T_seq ?_
  refine T_regD [.blk g7 113 ((atag key nonce aad (List.take (n2 - 16) cs)).map b8), .blk g2 86 (nonce.map b8), .blk g1 50 (key.map b8), .rd A1 1 n1 c1 (aad.map b8), .rd A2 1 n2 c2 (cs.map b8)] 6 6 #[false, false, false, false, false, false] hF kr kr ?_
  refine D_pure (i := 0) [0, 1, 2, 3, 4] rfl kr rfl (pr_sla (l := 0) (u := 16) (m := 0) sd sd sd rfl Try.underlying113 (z := 1) kr rfl rfl rfl rfl) (.inr rfl) rfl rfl ?_
  refine D_pure (i := 1) [0, 1, 2, 3, 4] rfl kr rfl (pr_move rfl rfl) (.inr rfl) rfl rfl ?_
  refine D_pure (i := 2) [0, 1, 2, 3, 4] rfl kr rfl (pr_move rfl rfl) (.inr rfl) rfl rfl ?_
  refine D_one 3 _ rfl kr rfl (op_slice_rd (l := n2 - 16) (u := n2) 4 rfl sd sd Try.underlying23 kr rfl rfl ⟨_, rfl⟩ rfl rfl rfl (fun B19 => ?_))
  refine T_as 0 _ (.rd B19 1 (n2 - (n2 - 16)) (c2 - (n2 - 16)) ((List.drop (n2 - 16) cs).map b8)) rfl (by congr 1; first | rfl | (rw [List.take_of_length_le (by simp; omega)]; simp)) ?_
  refine T_as 0 _ (.rd B19 1 16 (c2 - (n2 - 16)) ((List.drop (n2 - 16) cs).map b8)) rfl (by rw [show n2 - (n2 - 16) = 16 by omega]) ?_
  refine T_slot 36 (.slice B19 (n2 - (n2 - 16)) (c2 - (n2 - 16))) (.slice B19 16 (c2 - (n2 - 16))) rfl (by rw [show n2 - (n2 - 16) = 16 by omega]) ?_
  refine D_on [1, 2, 3, 4, 5] rfl ?_
  refine D_one 4 _ rfl kr rfl (op_cn (fun w hw => ctequal_f (atag key nonce aad (List.take (n2 - 16) cs)) (some ⟨g7, 0, none⟩) 16 16 (List.drop (n2 - 16) cs) B19 (c2 - (n2 - 16)) w (hok_cons ((src_full (z := 1) 1 rfl sd sd sd) w hw) (hok_cons ((src_rd 0 rfl) w hw) (hok_nil w))) sd sd sd) (enters_of Try.func72 kr rfl) rfl rfl rfl rfl rfl (fun t20 q21 => ?_))
  refine D_on [1, 2, 3, 4, 5] rfl ?_
  refine D_pure (i := 5) [1, 2, 3, 4, 5] rfl kr rfl (pr_cmp (bo := .eql) (n64_beq (eqw (atag key nonce aad (List.take (n2 - 16) cs)) (List.drop (n2 - 16) cs)) (0#64)) rfl rfl rfl rfl) (.inr rfl) rfl rfl ?_
  refine D_done kr ?_
  refine T_cond_yes (t := ((eqw (atag key nonce aad (List.take (n2 - 16) cs)) (List.drop (n2 - 16) cs)) == 0#64)) rfl (eqw_no (fun e => hg ((agood_iff key nonce aad cs n2 h2).2 e))) ?_
  refine Tsr hF rfl ?_
  refine la rfl rfl rfl rfl rfl ?_
  refine la rfl rfl rfl rfl rfl ?_
  refine L_nil ?_
  refine T_ret ?_
  exact T_fin () (by first | trivial | omega | (simp; done)) (res2 rfl rfl rfl) [] ⟨by decide, rfl⟩ rfl
set_option maxRecDepth 100000 in
set_option maxHeartbeats 4000000 in
theorem open_short_f (key : List (BitVec 8)) (nonce : List (BitVec 8)) (aad : List (BitVec 8)) (cs : List (BitVec 8)) (A1 : Option Addr) (n1 : Nat) (c1 : Nat) (A2 : Option Addr) (n2 : Nat) (c2 : Nat) (w : World) (hO : HOK [.rd A1 1 n1 c1 (aad.map b8), .rd A2 1 n2 c2 (cs.map b8)] w) (hk : key.length = 32) (hn : nonce.length = 12) (h1 : aad.length = n1) (h2 : cs.length = n2) (h3 : n1 ≤ 65536) (h4 : n2 < 16) : Calls Try.prog 56 [(.agg (key.map b8).toArray), (.agg (nonce.map b8).toArray), (.slice A1 n1 c1), (.slice A2 n2 c2)].toArray w (Ret (T := Unit) [] w (fun _ => True) (fun _ => (.tuple [(.slice none 0 0), (.int .i64 ((3 : Nat) : Int))].toArray)) (fun _ => [])) := by
 have hF : Wid Fence.wide := wid_wide
 refine enter (c := _) Try.func56 rfl [] _ [.rd A1 1 n1 c1 (aad.map b8), .rd A2 1 n2 c2 (cs.map b8)] (by rw [Try.ntmps56]; rfl) (own_rds hO rfl) ?_
 rw [Try.ntmps56]
 refine T_re [(0, (.agg (key.map b8).toArray)), (1, (.agg (nonce.map b8).toArray)), (2, (.slice A1 n1 c1)), (3, (.slice A2 n2 c2))] (sc rfl (sc rfl (sc rfl (sc rfl sn)))) ?_
 refine T_he [0, 1] [.rd A1 1 n1 c1 (aad.map b8), .rd A2 1 n2 c2 (cs.map b8)] ⟨by decide, rfl⟩ ?_
 refine Tsr hF rfl ?_
 refine L_op rfl (op_box (zs := (key.map b8)) rfl rfl rfl rfl rfl (fun g1 => ?_))
 refine L_op rfl (op_box (zs := (nonce.map b8)) rfl rfl rfl rfl rfl (fun g2 => ?_))
 refine la rfl rfl rfl rfl rfl ?_
 refine la rfl rfl rfl rfl rfl ?_
 refine L_nil ?_
 refine Tsr hF rfl ?_
 refine lm rfl rfl rfl rfl rfl ?_
 refine lo rfl (pr_len_sl Try.underlying23 rfl rfl) rfl rfl ?_
 refine lo rfl (pr_sub (zw_i64 (z := (((n2 : Nat) : Int) - ((16 : Nat) : Int))) sd) rfl rfl rfl) rfl rfl ?_
 refine la rfl rfl rfl rfl rfl ?_
 refine L_nil ?_
 refine T_seq ?_
 refine T_block ?_
 refine Tsr hF rfl ?_
 refine lm rfl rfl rfl rfl rfl ?_
 refine lo rfl (pr_len_sl Try.underlying23 rfl rfl) rfl rfl ?_
 refine lo rfl (pr_cmp (bo := .gtr) (nc_lt (a := 65536) (b := n1)) rfl rfl rfl rfl) rfl rfl ?_
 refine lm rfl rfl rfl rfl rfl ?_
 refine T_slot 19 (.bool (decide (65536 < n1))) (.bool false) rfl (congrArg _ (by simp; omega)) ?_
 refine lm rfl rfl rfl rfl rfl ?_
 refine lo rfl (pr_cmp (bo := .gtr) (k := .i64) (a := (((n2 : Nat) : Int) - ((16 : Nat) : Int))) (b := ((65536 : Nat) : Int)) (c := decide (((65536 : Nat) : Int) < (((n2 : Nat) : Int) - ((16 : Nat) : Int)))) rfl rfl rfl rfl rfl) rfl rfl ?_
 refine lo rfl (pr_pick_f rfl rfl rfl) rfl rfl ?_
 refine la rfl rfl rfl rfl rfl ?_
 refine L_nil ?_
 refine T_cond_no (t := decide (((65536 : Nat) : Int) < (((n2 : Nat) : Int) - ((16 : Nat) : Int)))) rfl (by simp; omega) ?_
 refine Tsr hF rfl ?_
 refine lm rfl rfl rfl rfl rfl ?_
 refine lo rfl (pr_cmp (bo := .lss) (k := .i64) (a := (((n2 : Nat) : Int) - ((16 : Nat) : Int))) (b := ((0 : Nat) : Int)) (c := decide ((((n2 : Nat) : Int) - ((16 : Nat) : Int)) < ((0 : Nat) : Int))) rfl rfl rfl rfl rfl) rfl rfl ?_
 refine la rfl rfl rfl rfl rfl ?_
 refine L_nil ?_
 refine T_cond_yes (t := decide ((((n2 : Nat) : Int) - ((16 : Nat) : Int)) < ((0 : Nat) : Int))) rfl (by simp; omega) ?_
 refine Tsr hF rfl ?_
 refine la rfl rfl rfl rfl rfl ?_
 refine la rfl rfl rfl rfl rfl ?_
 refine L_nil ?_
 refine T_ret ?_
 exact T_fin () (by first | trivial | omega | (simp; done)) (res2 rfl rfl rfl) [] ⟨by decide, rfl⟩ rfl
set_option maxRecDepth 100000 in
set_option maxHeartbeats 4000000 in
theorem open_la_f (key : List (BitVec 8)) (nonce : List (BitVec 8)) (aad : List (BitVec 8)) (cs : List (BitVec 8)) (A1 : Option Addr) (n1 : Nat) (c1 : Nat) (A2 : Option Addr) (n2 : Nat) (c2 : Nat) (w : World) (hO : HOK [.rd A1 1 n1 c1 (aad.map b8), .rd A2 1 n2 c2 (cs.map b8)] w) (hk : key.length = 32) (hn : nonce.length = 12) (h1 : aad.length = n1) (h2 : cs.length = n2) (h3 : 65536 < n1) : Calls Try.prog 56 [(.agg (key.map b8).toArray), (.agg (nonce.map b8).toArray), (.slice A1 n1 c1), (.slice A2 n2 c2)].toArray w (Ret (T := Unit) [] w (fun _ => True) (fun _ => (.tuple [(.slice none 0 0), (.int .i64 ((5 : Nat) : Int))].toArray)) (fun _ => [])) := by
 have hle2 : n2 ≤ 9223372036854775807 := by have h9 := (hO (.rd A2 1 n2 c2 (cs.map b8)) (by simp)).1; exact Nat.le_trans h9.le h9.most
 have hF : Wid Fence.wide := wid_wide
 refine enter (c := _) Try.func56 rfl [] _ [.rd A1 1 n1 c1 (aad.map b8), .rd A2 1 n2 c2 (cs.map b8)] (by rw [Try.ntmps56]; rfl) (own_rds hO rfl) ?_
 rw [Try.ntmps56]
 refine T_re [(0, (.agg (key.map b8).toArray)), (1, (.agg (nonce.map b8).toArray)), (2, (.slice A1 n1 c1)), (3, (.slice A2 n2 c2))] (sc rfl (sc rfl (sc rfl (sc rfl sn)))) ?_
 refine T_he [0, 1] [.rd A1 1 n1 c1 (aad.map b8), .rd A2 1 n2 c2 (cs.map b8)] ⟨by decide, rfl⟩ ?_
 refine Tsr hF rfl ?_
 refine L_op rfl (op_box (zs := (key.map b8)) rfl rfl rfl rfl rfl (fun g1 => ?_))
 refine L_op rfl (op_box (zs := (nonce.map b8)) rfl rfl rfl rfl rfl (fun g2 => ?_))
 refine la rfl rfl rfl rfl rfl ?_
 refine la rfl rfl rfl rfl rfl ?_
 refine L_nil ?_
 refine Tsr hF rfl ?_
 refine lm rfl rfl rfl rfl rfl ?_
 refine lo rfl (pr_len_sl Try.underlying23 rfl rfl) rfl rfl ?_
 refine lo rfl (pr_sub (zw_i64 (z := (((n2 : Nat) : Int) - ((16 : Nat) : Int))) sd) rfl rfl rfl) rfl rfl ?_
 refine la rfl rfl rfl rfl rfl ?_
 refine L_nil ?_
 refine T_seq ?_
 refine T_block ?_
 refine Tsr hF rfl ?_
 refine lm rfl rfl rfl rfl rfl ?_
 refine lo rfl (pr_len_sl Try.underlying23 rfl rfl) rfl rfl ?_
 refine lo rfl (pr_cmp (bo := .gtr) (nc_lt (a := 65536) (b := n1)) rfl rfl rfl rfl) rfl rfl ?_
 refine lm rfl rfl rfl rfl rfl ?_
 refine T_slot 19 (.bool (decide (65536 < n1))) (.bool true) rfl (congrArg _ (by simp; omega)) ?_
 refine L_skip rfl rfl rfl ?_
 refine L_skip rfl rfl rfl ?_
 refine lo rfl (pr_pick_t rfl rfl rfl) rfl rfl ?_
 refine la rfl rfl rfl rfl rfl ?_
 refine L_nil ?_
 refine T_cond_t rfl ?_
 refine Tsr hF rfl ?_
 refine la rfl rfl rfl rfl rfl ?_
 refine la rfl rfl rfl rfl rfl ?_
 refine L_nil ?_
 refine T_ret ?_
 exact T_fin () (by first | trivial | omega | (simp; done)) (res2 rfl rfl rfl) [] ⟨by decide, rfl⟩ rfl
set_option maxRecDepth 100000 in
set_option maxHeartbeats 4000000 in
theorem open_lp_f (key : List (BitVec 8)) (nonce : List (BitVec 8)) (aad : List (BitVec 8)) (cs : List (BitVec 8)) (A1 : Option Addr) (n1 : Nat) (c1 : Nat) (A2 : Option Addr) (n2 : Nat) (c2 : Nat) (w : World) (hO : HOK [.rd A1 1 n1 c1 (aad.map b8), .rd A2 1 n2 c2 (cs.map b8)] w) (hk : key.length = 32) (hn : nonce.length = 12) (h1 : aad.length = n1) (h2 : cs.length = n2) (h3 : n1 ≤ 65536) (h4 : 65552 < n2) : Calls Try.prog 56 [(.agg (key.map b8).toArray), (.agg (nonce.map b8).toArray), (.slice A1 n1 c1), (.slice A2 n2 c2)].toArray w (Ret (T := Unit) [] w (fun _ => True) (fun _ => (.tuple [(.slice none 0 0), (.int .i64 ((5 : Nat) : Int))].toArray)) (fun _ => [])) := by
 have hle2 : n2 ≤ 9223372036854775807 := by have h9 := (hO (.rd A2 1 n2 c2 (cs.map b8)) (by simp)).1; exact Nat.le_trans h9.le h9.most
 have hF : Wid Fence.wide := wid_wide
 refine enter (c := _) Try.func56 rfl [] _ [.rd A1 1 n1 c1 (aad.map b8), .rd A2 1 n2 c2 (cs.map b8)] (by rw [Try.ntmps56]; rfl) (own_rds hO rfl) ?_
 rw [Try.ntmps56]
 refine T_re [(0, (.agg (key.map b8).toArray)), (1, (.agg (nonce.map b8).toArray)), (2, (.slice A1 n1 c1)), (3, (.slice A2 n2 c2))] (sc rfl (sc rfl (sc rfl (sc rfl sn)))) ?_
 refine T_he [0, 1] [.rd A1 1 n1 c1 (aad.map b8), .rd A2 1 n2 c2 (cs.map b8)] ⟨by decide, rfl⟩ ?_
 refine Tsr hF rfl ?_
 refine L_op rfl (op_box (zs := (key.map b8)) rfl rfl rfl rfl rfl (fun g1 => ?_))
 refine L_op rfl (op_box (zs := (nonce.map b8)) rfl rfl rfl rfl rfl (fun g2 => ?_))
 refine la rfl rfl rfl rfl rfl ?_
 refine la rfl rfl rfl rfl rfl ?_
 refine L_nil ?_
 refine Tsr hF rfl ?_
 refine lm rfl rfl rfl rfl rfl ?_
 refine lo rfl (pr_len_sl Try.underlying23 rfl rfl) rfl rfl ?_
 refine lo rfl (pr_sub (ns_i64 (a := n2) (b := 16) sd sd) rfl rfl rfl) rfl rfl ?_
 refine la rfl rfl rfl rfl rfl ?_
 refine L_nil ?_
 refine T_seq ?_
 refine T_block ?_
 refine Tsr hF rfl ?_
 refine lm rfl rfl rfl rfl rfl ?_
 refine lo rfl (pr_len_sl Try.underlying23 rfl rfl) rfl rfl ?_
 refine lo rfl (pr_cmp (bo := .gtr) (nc_lt (a := 65536) (b := n1)) rfl rfl rfl rfl) rfl rfl ?_
 refine lm rfl rfl rfl rfl rfl ?_
 refine T_slot 19 (.bool (decide (65536 < n1))) (.bool false) rfl (congrArg _ (by simp; omega)) ?_
 refine lm rfl rfl rfl rfl rfl ?_
 refine lo rfl (pr_cmp (bo := .gtr) (nc_lt (a := 65536) (b := n2 - 16)) rfl rfl rfl rfl) rfl rfl ?_
 refine lo rfl (pr_pick_f rfl rfl rfl) rfl rfl ?_
 refine la rfl rfl rfl rfl rfl ?_
 refine L_nil ?_
 refine T_cond_yes (t := decide (65536 < n2 - 16)) rfl (by simp; omega) ?_
 refine Tsr hF rfl ?_
 refine la rfl rfl rfl rfl rfl ?_
 refine la rfl rfl rfl rfl rfl ?_
 refine L_nil ?_
 refine T_ret ?_
 exact T_fin () (by first | trivial | omega | (simp; done)) (res2 rfl rfl rfl) [] ⟨by decide, rfl⟩ rfl
end Go.Proofs.Ytlplpmkdebemnaa
namespace Go.Proofs.Ytlplpmkdebemnaa
set_option linter.unusedVariables false
set_option linter.unusedSimpArgs false
set_option linter.unnecessarySimpa false
set_option maxRecDepth 100000
open Go.RowKit Bv Fw

/-- The key of who sends letters. -/
def lkey (job : List (BitVec 8)) (fr st : BitVec 64) : List (BitVec 8) := kof job ([115#8, 101#8, 110#8, 100#8, 101#8, 114#8] ++ eights [fr, st])
theorem lkey_def (job : List (BitVec 8)) (fr st : BitVec 64) : kof job ([115#8, 101#8, 110#8, 100#8, 101#8, 114#8] ++ eights [fr, st]) = lkey job fr st := rfl
theorem lkey_len (job : List (BitVec 8)) (fr st : BitVec 64) : (lkey job fr st).length = 32 := kof_len _ _
attribute [irreducible] lkey
/-- A letter's bytes, sealed. -/
def lsealed (job : List (BitVec 8)) (fr st n : BitVec 64) (p : List (BitVec 8)) : List (BitVec 8) := eights [fr, st, n] ++ aseal (lkey job fr st) (nonc n 0#64) (eights [fr, st, n]) p
theorem lsealed_def (job : List (BitVec 8)) (fr st n : BitVec 64) (p : List (BitVec 8)) : eights [fr, st, n] ++ aseal (lkey job fr st) (nonc n 0#64) (eights [fr, st, n]) p = lsealed job fr st n p := rfl
theorem lsealed_len (job : List (BitVec 8)) (fr st n : BitVec 64) (p : List (BitVec 8)) (h : p.length = 64) : (lsealed job fr st n p).length = 104 := by unfold lsealed; rw [List.length_append, eights_three, aseal_len, h]
theorem lsealed_take (job : List (BitVec 8)) (fr st n : BitVec 64) (p : List (BitVec 8)) : List.take 24 (lsealed job fr st n p) = eights [fr, st, n] := by unfold lsealed; rw [List.take_left' (eights_three _ _ _)]
theorem lsealed_drop (job : List (BitVec 8)) (fr st n : BitVec 64) (p : List (BitVec 8)) : List.drop 24 (lsealed job fr st n p) = aseal (lkey job fr st) (nonc n 0#64) (eights [fr, st, n]) p := by unfold lsealed; rw [List.drop_left' (eights_three _ _ _)]
attribute [irreducible] lsealed
theorem ktake {a b : List (BitVec 8)} (h : a.length = 32) : List.take 32 (a ++ b) = a := List.take_left' h
theorem kdrop {a b : List (BitVec 8)} (h : a.length = 32) (h2 : b.length = 12) : List.take 12 (List.drop 32 (a ++ b)) = b := by rw [List.drop_left' h, List.take_of_length_le (by omega)]
theorem eights_eight (a b c d e f g h : BitVec 64) : (eights [a, b, c, d, e, f, g, h]).length = 64 := eights_len _

set_option maxHeartbeats 4000000 in
theorem lnew_f (job : List (BitVec 8)) (w : World) (hO : HOK [] w) (hj : job.length = 32) : Calls Try.prog 49 [(.agg (job.map b8).toArray)].toArray w (Ret (T := Nat × Nat) [] w (fun ⟨g, gm⟩ => True) (fun ⟨g, gm⟩ => (.pointer (some ⟨g, 0, none⟩))) (fun ⟨g, gm⟩ => [.blk g 107 (job.map b8 ++ [Value.map (some gm)]), .obj gm (.map #[] 0)])) := by
 have hF : Wid Fence.wide := wid_wide
 refine enter (c := _) Try.func49 rfl [] _ [] (by rw [Try.ntmps49]; rfl) (own_rds hO rfl) ?_
 rw [Try.ntmps49]
 refine T_re [(0, (.agg (job.map b8).toArray))] (sc rfl sn) ?_
 refine T_he [] [] ⟨by decide, rfl⟩ ?_
 refine Tsr hF rfl ?_
 refine L_op rfl (op_box (zs := (job.map b8)) rfl rfl rfl rfl rfl (fun g1 => ?_))
 refine la rfl rfl rfl rfl rfl ?_
 refine L_nil ?_
 refine Tsr hF rfl ?_
 refine lq rfl (ld_agg (ds := (job.map b8)) 0 rfl agg_all Try.underlying50 rfl (fwz (n := 32) kr sd) rfl rfl) rfl rfl ?_
 refine L_op rfl (op_mkmap rfl rfl rfl (fun g2 => ?_))
 refine lo rfl (pr_build (qs := [(0, (.agg (job.map b8).toArray)), (1, (Value.map (some g2)))]) (v := .agg (job.map b8 ++ [Value.map (some g2)]).toArray) (fun _ => run_build2m (n := 32) Try.underlying107 (z := .agg [(b8 (0#8)), (b8 (0#8)), (b8 (0#8)), (b8 (0#8)), (b8 (0#8)), (b8 (0#8)), (b8 (0#8)), (b8 (0#8)), (b8 (0#8)), (b8 (0#8)), (b8 (0#8)), (b8 (0#8)), (b8 (0#8)), (b8 (0#8)), (b8 (0#8)), (b8 (0#8)), (b8 (0#8)), (b8 (0#8)), (b8 (0#8)), (b8 (0#8)), (b8 (0#8)), (b8 (0#8)), (b8 (0#8)), (b8 (0#8)), (b8 (0#8)), (b8 (0#8)), (b8 (0#8)), (b8 (0#8)), (b8 (0#8)), (b8 (0#8)), (b8 (0#8)), (b8 (0#8)), (Value.map none)].toArray) kr rfl rfl rfl kr kr sd) rfl rfl) rfl rfl ?_
 refine L_op rfl (op_box (zs := (job.map b8 ++ [Value.map (some g2)])) rfl rfl rfl rfl rfl (fun g3 => ?_))
 refine la rfl rfl rfl rfl rfl ?_
 refine L_nil ?_
 refine T_ret ?_
 exact T_fin (g3, g2) (by first | trivial | omega | (simp; done)) (res1 rfl rfl) [0, 1] ⟨by decide, rfl⟩ rfl
set_option maxRecDepth 100000 in
set_option maxHeartbeats 4000000 in
theorem luse_f (job : List (BitVec 8)) (g : Nat) (gm : Nat) (fr : BitVec 64) (start : BitVec 64) (n : BitVec 64) (w : World) (hO : HOK [.obj gm (.map #[] 0), .rd (some ⟨g, 0, none⟩) 1 33 33 (job.map b8 ++ [Value.map (some gm)])] w) (hj : job.length = 32) : Calls Try.prog 66 [(.pointer (some ⟨g, 0, none⟩)), (.int .i64 (i64 fr)), (b64 start), (b64 n)].toArray w (Ret (T := Unit) [gm] w (fun _ => True) (fun _ => (.agg (((lkey job fr start) ++ (nonc n 0#64)).map b8).toArray)) (fun _ => [])) := by
 have hlk := lkey_len job fr start
 have hnn := nonc_len n 0#64
 have huu : ((lkey job fr start) ++ (nonc n 0#64)).length = 44 := by rw [List.length_append, hlk, hnn]
 have hF : Wid Fence.wide := wid_wide
 refine enter (c := _) Try.func66 rfl [gm] _ [.obj gm (.map #[] 0), .rd (some ⟨g, 0, none⟩) 1 33 33 (job.map b8 ++ [Value.map (some gm)])] (by rw [Try.ntmps66]; rfl) (own_m hO rfl) ?_
 rw [Try.ntmps66]
 refine T_re [(0, (.pointer (some ⟨g, 0, none⟩))), (1, (.int .i64 (i64 fr))), (2, (b64 start)), (3, (b64 n))] (sc rfl (sc rfl (sc rfl (sc rfl sn)))) ?_
 refine T_he [0, 1] [.obj gm (.map #[] 0), .rd (some ⟨g, 0, none⟩) 1 33 33 (job.map b8 ++ [Value.map (some gm)])] ⟨by decide, rfl⟩ ?_
 refine Tsr hF rfl ?_
 refine L_op rfl (op_alloc (z := .agg [(b8 (0#8)), (b8 (0#8)), (b8 (0#8)), (b8 (0#8)), (b8 (0#8)), (b8 (0#8)), (b8 (0#8)), (b8 (0#8)), (b8 (0#8)), (b8 (0#8)), (b8 (0#8)), (b8 (0#8)), (b8 (0#8)), (b8 (0#8)), (b8 (0#8)), (b8 (0#8)), (b8 (0#8)), (b8 (0#8)), (b8 (0#8)), (b8 (0#8)), (b8 (0#8)), (b8 (0#8)), (b8 (0#8)), (b8 (0#8)), (b8 (0#8)), (b8 (0#8)), (b8 (0#8)), (b8 (0#8)), (b8 (0#8)), (b8 (0#8)), (b8 (0#8)), (b8 (0#8)), (b8 (0#8)), (b8 (0#8)), (b8 (0#8)), (b8 (0#8)), (b8 (0#8)), (b8 (0#8)), (b8 (0#8)), (b8 (0#8)), (b8 (0#8)), (b8 (0#8)), (b8 (0#8)), (b8 (0#8))].toArray) (zs := [(b8 (0#8)), (b8 (0#8)), (b8 (0#8)), (b8 (0#8)), (b8 (0#8)), (b8 (0#8)), (b8 (0#8)), (b8 (0#8)), (b8 (0#8)), (b8 (0#8)), (b8 (0#8)), (b8 (0#8)), (b8 (0#8)), (b8 (0#8)), (b8 (0#8)), (b8 (0#8)), (b8 (0#8)), (b8 (0#8)), (b8 (0#8)), (b8 (0#8)), (b8 (0#8)), (b8 (0#8)), (b8 (0#8)), (b8 (0#8)), (b8 (0#8)), (b8 (0#8)), (b8 (0#8)), (b8 (0#8)), (b8 (0#8)), (b8 (0#8)), (b8 (0#8)), (b8 (0#8)), (b8 (0#8)), (b8 (0#8)), (b8 (0#8)), (b8 (0#8)), (b8 (0#8)), (b8 (0#8)), (b8 (0#8)), (b8 (0#8)), (b8 (0#8)), (b8 (0#8)), (b8 (0#8)), (b8 (0#8))]) kr rfl rfl rfl rfl (fun g1 => ?_))
 refine L_nil ?_
 refine Tsr hF rfl ?_
 refine lm rfl rfl rfl rfl rfl ?_
 refine lo rfl (pr_cv (zc_i64u fr) Try.underlying3 Try.underlying30 rfl rfl) rfl rfl ?_
 refine lm rfl rfl rfl rfl rfl ?_
 refine lo rfl (pr_build (qs := [(0, (b64 fr)), (1, (b64 start))]) (v := .agg [(b64 fr), (b64 start)].toArray) (fun _ => by kernel_rfl) rfl rfl) rfl rfl ?_
 refine L_op rfl (op_alloc (z := .agg [(b64 (0#64)), (b64 (0#64))].toArray) (zs := [(b64 (0#64)), (b64 (0#64))]) kr rfl rfl rfl rfl (fun g2 => ?_))
 refine L_op rfl (op_sto (n := 2) (vs := [(b64 fr), (b64 start)]) 0 rfl rfl kr (by simp [Value.oneCell']) kr kr rfl rfl rfl rfl ?_)
 refine L_nil ?_
 refine T_seq ?_
 refine T_regD [.blk g2 31 [(b64 fr), (b64 start)], .blk g1 88 [(b8 (0#8)), (b8 (0#8)), (b8 (0#8)), (b8 (0#8)), (b8 (0#8)), (b8 (0#8)), (b8 (0#8)), (b8 (0#8)), (b8 (0#8)), (b8 (0#8)), (b8 (0#8)), (b8 (0#8)), (b8 (0#8)), (b8 (0#8)), (b8 (0#8)), (b8 (0#8)), (b8 (0#8)), (b8 (0#8)), (b8 (0#8)), (b8 (0#8)), (b8 (0#8)), (b8 (0#8)), (b8 (0#8)), (b8 (0#8)), (b8 (0#8)), (b8 (0#8)), (b8 (0#8)), (b8 (0#8)), (b8 (0#8)), (b8 (0#8)), (b8 (0#8)), (b8 (0#8)), (b8 (0#8)), (b8 (0#8)), (b8 (0#8)), (b8 (0#8)), (b8 (0#8)), (b8 (0#8)), (b8 (0#8)), (b8 (0#8)), (b8 (0#8)), (b8 (0#8)), (b8 (0#8)), (b8 (0#8))], .obj gm (.map #[] 0), .rd (some ⟨g, 0, none⟩) 1 33 33 (job.map b8 ++ [Value.map (some gm)])] 12 12 #[false, false, false, false, false, false, false, false, false, false, false, false] hF kr kr ?_
 refine D_pure (i := 0) [0, 1, 2, 3] rfl kr rfl (pr_move rfl rfl) (.inr rfl) rfl rfl ?_
 refine D_pure (i := 1) [0, 1, 2, 3] rfl kr rfl (pr_nilck rfl rfl) (.inr rfl) rfl rfl ?_
 refine D_pure (i := 2) [0, 1, 2, 3] rfl kr rfl (pr_fa (m := 0) (m' := 32) (z := 0) (by rfl) Try.underlying107 rfl kr rfl rfl) (.inr rfl) rfl rfl ?_
 refine D_take (i := 3) [0, 1, 2, 3] rfl kr rfl (ld_rdb (src_rd 3 rfl) (jm_at sd) Try.underlying105 rfl rfl rfl) rfl rfl rfl ?_
 refine D_take (i := 4) [0, 1, 2, 3] rfl kr rfl (ld_agg (ds := [(b64 fr), (b64 start)]) 0 rfl agg_all Try.underlying31 rfl kr rfl rfl) rfl rfl rfl ?_
 refine D_take (i := 5) [0, 1, 2, 3] rfl kr rfl (ld_look0 (z := .agg ((List.replicate 32 0#8).map b8).toArray) 2 rfl Try.underlying105 Try.underlying31 Try.underlying30 kr kr rfl rfl rfl) rfl rfl rfl ?_
 refine D_pure (i := 6) [0, 1, 2, 3] rfl kr rfl (pr_move rfl rfl) (.inr rfl) rfl rfl ?_
 refine D_pure (i := 7) [0, 1, 2, 3] rfl kr rfl (pr_ext (vs := [(.agg ((List.replicate 32 0#8).map b8).toArray), (.bool false)]) rfl rfl rfl) (.inr rfl) rfl rfl ?_
 refine D_pure (i := 8) [0, 1, 2, 3] rfl kr rfl (pr_ext (vs := [(.agg ((List.replicate 32 0#8).map b8).toArray), (.bool false)]) rfl rfl rfl) (.inr rfl) rfl rfl ?_
 refine D_one 9 _ rfl kr rfl (op_alloc (z := .agg ((List.replicate 32 0#8).map b8).toArray) (zs := ((List.replicate 32 0#8).map b8)) kr rfl rfl rfl rfl (fun g3 => ?_))
 refine D_on [1, 2, 3, 4] rfl ?_
 refine D_one 10 _ rfl kr rfl (op_sto (n := 32) (vs := ((List.replicate 32 0#8).map b8)) 0 rfl rfl kr (all8_one _) kr kr rfl rfl rfl rfl ?_)
 refine D_on [1, 2, 3, 4] rfl ?_
 refine D_pure (i := 11) [1, 2, 3, 4] rfl kr rfl (pr_assign rfl rfl) (.inr rfl) rfl rfl ?_
 refine D_done kr ?_
 refine T_seq ?_
 refine Tsr hF rfl ?_
 refine lm rfl rfl rfl rfl rfl ?_
 refine lo rfl (pr_un (v := .bool true) rfl rfl rfl) rfl rfl ?_
 refine L_nil ?_
 refine T_cond_t rfl ?_
 refine Tsr hF rfl ?_
 refine lm rfl rfl rfl rfl rfl ?_
 refine lo rfl (pr_nilck rfl rfl) rfl rfl ?_
 refine lo rfl (pr_fa (m := 0) (m' := 0) (z := 31) (by rfl) Try.underlying107 rfl kr rfl rfl) rfl rfl ?_
 refine lq rfl (ld_aggs (ds := (job.map b8)) (src_rd 4 rfl) jm_take2 (by have h1 : ((job.map b8)).length = 32 := sd; omega) Try.underlying50 rfl (fwz (n := 32) kr sd) rfl rfl) rfl rfl ?_
 refine lm rfl rfl rfl rfl rfl ?_
 refine lm rfl rfl rfl rfl rfl ?_
 refine L_op rfl (op_cn (fun w hw => ksender_f job fr start w (hok_nil w) (by first | assumption | exact sd)) (enters_of Try.func75 kr rfl) rfl rfl rfl rfl rfl (fun t4 q5 => ?_))
 refine T_slot 33 _ (.agg ((lkey job fr start).map b8).toArray) rfl (by rw [lkey_def]) ?_
 refine L_op rfl (op_sto (n := 32) (vs := ((lkey job fr start).map b8)) 0 rfl rfl kr (all8_one _) kr sd rfl rfl rfl rfl ?_)
 refine L_nil ?_
 refine T_regD [.blk g3 50 ((lkey job fr start).map b8), .blk g2 31 [(b64 fr), (b64 start)], .blk g1 88 [(b8 (0#8)), (b8 (0#8)), (b8 (0#8)), (b8 (0#8)), (b8 (0#8)), (b8 (0#8)), (b8 (0#8)), (b8 (0#8)), (b8 (0#8)), (b8 (0#8)), (b8 (0#8)), (b8 (0#8)), (b8 (0#8)), (b8 (0#8)), (b8 (0#8)), (b8 (0#8)), (b8 (0#8)), (b8 (0#8)), (b8 (0#8)), (b8 (0#8)), (b8 (0#8)), (b8 (0#8)), (b8 (0#8)), (b8 (0#8)), (b8 (0#8)), (b8 (0#8)), (b8 (0#8)), (b8 (0#8)), (b8 (0#8)), (b8 (0#8)), (b8 (0#8)), (b8 (0#8)), (b8 (0#8)), (b8 (0#8)), (b8 (0#8)), (b8 (0#8)), (b8 (0#8)), (b8 (0#8)), (b8 (0#8)), (b8 (0#8)), (b8 (0#8)), (b8 (0#8)), (b8 (0#8)), (b8 (0#8))], .obj gm (.map #[] 0), .rd (some ⟨g, 0, none⟩) 1 33 33 (job.map b8 ++ [Value.map (some gm)])] 6 7 #[false, false, false, false, false, false, false] hF kr kr ?_
 refine D_pure (i := 0) [0, 1, 2, 3, 4] rfl kr rfl (pr_move rfl rfl) (.inr rfl) rfl rfl ?_
 refine D_pure (i := 1) [0, 1, 2, 3, 4] rfl kr rfl (pr_nilck rfl rfl) (.inr rfl) rfl rfl ?_
 refine D_pure (i := 2) [0, 1, 2, 3, 4] rfl kr rfl (pr_fa (m := 0) (m' := 32) (z := 0) (by rfl) Try.underlying107 rfl kr rfl rfl) (.inr rfl) rfl rfl ?_
 refine D_take (i := 3) [0, 1, 2, 3, 4] rfl kr rfl (ld_rdb (src_rd 4 rfl) (jm_at sd) Try.underlying105 rfl rfl rfl) rfl rfl rfl ?_
 refine D_take (i := 4) [0, 1, 2, 3, 4] rfl kr rfl (ld_agg (ds := [(b64 fr), (b64 start)]) 1 rfl agg_all Try.underlying31 rfl kr rfl rfl) rfl rfl rfl ?_
 refine D_take (i := 5) [0, 1, 2, 3, 4] rfl kr rfl (ld_agg (ds := ((lkey job fr start).map b8)) 0 rfl agg_all Try.underlying50 rfl (fwz (n := 32) kr sd) rfl rfl) rfl rfl rfl ?_
 refine D_one 6 _ rfl kr rfl (op_mapput0 3 rfl Try.underlying105 Try.underlying31 Try.underlying30 kr rfl rfl rfl rfl rfl (fun es6 cl7 => ?_))
 refine D_past kr ?_
 refine D_done kr ?_
 refine T_seq ?_
 refine T_regD [.obj gm (.map es6 cl7), .blk g3 50 ((lkey job fr start).map b8), .blk g2 31 [(b64 fr), (b64 start)], .blk g1 88 [(b8 (0#8)), (b8 (0#8)), (b8 (0#8)), (b8 (0#8)), (b8 (0#8)), (b8 (0#8)), (b8 (0#8)), (b8 (0#8)), (b8 (0#8)), (b8 (0#8)), (b8 (0#8)), (b8 (0#8)), (b8 (0#8)), (b8 (0#8)), (b8 (0#8)), (b8 (0#8)), (b8 (0#8)), (b8 (0#8)), (b8 (0#8)), (b8 (0#8)), (b8 (0#8)), (b8 (0#8)), (b8 (0#8)), (b8 (0#8)), (b8 (0#8)), (b8 (0#8)), (b8 (0#8)), (b8 (0#8)), (b8 (0#8)), (b8 (0#8)), (b8 (0#8)), (b8 (0#8)), (b8 (0#8)), (b8 (0#8)), (b8 (0#8)), (b8 (0#8)), (b8 (0#8)), (b8 (0#8)), (b8 (0#8)), (b8 (0#8)), (b8 (0#8)), (b8 (0#8)), (b8 (0#8)), (b8 (0#8))], .rd (some ⟨g, 0, none⟩) 1 33 33 (job.map b8 ++ [Value.map (some gm)])] 4 5 #[false, false, false, false, false] hF kr kr ?_
 refine D_pure (i := 1) [0, 1, 2, 3, 4] rfl kr rfl (pr_move rfl rfl) (.inr rfl) rfl rfl ?_
 refine D_take (i := 0) [0, 1, 2, 3, 4] rfl kr rfl (ld_agg (ds := ((lkey job fr start).map b8)) 1 rfl agg_all Try.underlying50 rfl (fwz (n := 32) kr sd) rfl rfl) rfl rfl rfl ?_
 refine D_one 2 _ rfl kr rfl (op_cn (fun w hw => knonce_f n (0#64) w (hok_nil w) ) (enters_of Try.func68 kr rfl) rfl rfl rfl rfl rfl (fun t8 q9 => ?_))
 refine D_on [0, 1, 2, 3, 4] rfl ?_
 refine D_pure (i := 3) [0, 1, 2, 3, 4] rfl kr rfl (pr_build (qs := [(0, (.agg ((lkey job fr start).map b8).toArray)), (1, (.agg ((nonc n (0#64)).map b8).toArray))]) (v := .agg (((lkey job fr start) ++ (nonc n (0#64))).map b8).toArray) (fun _ => run_build2b (n := 32) (m := 12) Try.underlying88 (z := .agg [(b8 (0#8)), (b8 (0#8)), (b8 (0#8)), (b8 (0#8)), (b8 (0#8)), (b8 (0#8)), (b8 (0#8)), (b8 (0#8)), (b8 (0#8)), (b8 (0#8)), (b8 (0#8)), (b8 (0#8)), (b8 (0#8)), (b8 (0#8)), (b8 (0#8)), (b8 (0#8)), (b8 (0#8)), (b8 (0#8)), (b8 (0#8)), (b8 (0#8)), (b8 (0#8)), (b8 (0#8)), (b8 (0#8)), (b8 (0#8)), (b8 (0#8)), (b8 (0#8)), (b8 (0#8)), (b8 (0#8)), (b8 (0#8)), (b8 (0#8)), (b8 (0#8)), (b8 (0#8)), (b8 (0#8)), (b8 (0#8)), (b8 (0#8)), (b8 (0#8)), (b8 (0#8)), (b8 (0#8)), (b8 (0#8)), (b8 (0#8)), (b8 (0#8)), (b8 (0#8)), (b8 (0#8)), (b8 (0#8))].toArray) kr rfl rfl rfl kr kr sd sd) rfl rfl) (.inr rfl) rfl rfl ?_
 refine D_one 4 _ rfl kr rfl (op_sto (n := 44) (vs := (((lkey job fr start) ++ (nonc n (0#64))).map b8)) 3 rfl rfl kr (all8_one _) kr sd rfl rfl rfl rfl ?_)
 refine D_past kr ?_
 refine D_done kr ?_
 refine T_ret ?_
 refine T_as 0 _ (.blk g1 88 (((lkey job fr start) ++ (nonc n 0#64)).map b8)) rfl (by first | rfl | (simp; done)) ?_
 exact T_fin () (by first | trivial | omega | (simp; done)) (resb 0 rfl rfl rfl Try.underlying88 rfl (fwz (n := 44) kr sd)) [] ⟨by decide, rfl⟩ rfl
set_option maxRecDepth 100000 in
set_option maxHeartbeats 4000000 in
theorem lrseal_f (job : List (BitVec 8)) (g : Nat) (gm : Nat) (fr : BitVec 64) (start : BitVec 64) (n : BitVec 64) (vk : Int) (vf : Int) (vt : Int) (vs : BitVec 64) (vj : Int) (va : BitVec 64) (vr : BitVec 64) (vq : BitVec 64) (w : World) (hO : HOK [.obj gm (.map #[] 0), .rd (some ⟨g, 0, none⟩) 1 33 33 (job.map b8 ++ [Value.map (some gm)])] w) (hj : job.length = 32) : Calls Try.prog 50 [(.pointer (some ⟨g, 0, none⟩)), (.int .i64 (i64 fr)), (b64 start), (b64 n), (.agg [(.int .i64 vk), (.int .i64 vf), (.int .i64 vt), (b64 vs), (.int .i64 vj), (b64 va), (b64 vr), (b64 vq)].toArray)].toArray w (Ret (T := Option Addr × Nat) [gm] w (fun ⟨B, d⟩ => True) (fun ⟨B, d⟩ => (.tuple [(.slice B 104 d), (.int .i64 ((0 : Nat) : Int))].toArray)) (fun ⟨B, d⟩ => [.row (.slice B 104 d) 5 1 104 ((lsealed job fr start n (eights [BitVec.ofInt 64 vk, BitVec.ofInt 64 vf, BitVec.ofInt 64 vt, vs, BitVec.ofInt 64 vj, va, vr, vq])).map b8)])) := by
 have hlk := lkey_len job fr start
 have hnn := nonc_len n 0#64
 have huu : ((lkey job fr start) ++ (nonc n 0#64)).length = 44 := by rw [List.length_append, hlk, hnn]
 have hh3 := eights_three fr start n
 have hp8 : (eights [BitVec.ofInt 64 vk, BitVec.ofInt 64 vf, BitVec.ofInt 64 vt, vs, BitVec.ofInt 64 vj, va, vr, vq]).length = 64 := eights_eight _ _ _ _ _ _ _ _
 have hsl := aseal_len (lkey job fr start) (nonc n 0#64) (eights [fr, start, n]) (eights [BitVec.ofInt 64 vk, BitVec.ofInt 64 vf, BitVec.ofInt 64 vt, vs, BitVec.ofInt 64 vj, va, vr, vq])
 have hll := lsealed_len job fr start n (eights [BitVec.ofInt 64 vk, BitVec.ofInt 64 vf, BitVec.ofInt 64 vt, vs, BitVec.ofInt 64 vj, va, vr, vq]) hp8
 have hF : Wid Fence.wide := wid_wide
 refine enter (c := _) Try.func50 rfl [gm] _ [.obj gm (.map #[] 0), .rd (some ⟨g, 0, none⟩) 1 33 33 (job.map b8 ++ [Value.map (some gm)])] (by rw [Try.ntmps50]; rfl) (own_m hO rfl) ?_
 rw [Try.ntmps50]
 refine T_re [(0, (.pointer (some ⟨g, 0, none⟩))), (1, (.int .i64 (i64 fr))), (2, (b64 start)), (3, (b64 n)), (4, (.agg [(.int .i64 vk), (.int .i64 vf), (.int .i64 vt), (b64 vs), (.int .i64 vj), (b64 va), (b64 vr), (b64 vq)].toArray))] (sc rfl (sc rfl (sc rfl (sc rfl (sc rfl sn))))) ?_
 refine T_he [0, 1] [.obj gm (.map #[] 0), .rd (some ⟨g, 0, none⟩) 1 33 33 (job.map b8 ++ [Value.map (some gm)])] ⟨by decide, rfl⟩ ?_
 refine Tsr hF rfl ?_
 refine L_op rfl (op_box (zs := [(.int .i64 vk), (.int .i64 vf), (.int .i64 vt), (b64 vs), (.int .i64 vj), (b64 va), (b64 vr), (b64 vq)]) rfl rfl rfl rfl rfl (fun g1 => ?_))
 refine la rfl rfl rfl rfl rfl ?_
 refine la rfl rfl rfl rfl rfl ?_
 refine L_nil ?_
 refine Tsr hF rfl ?_
 refine lm rfl rfl rfl rfl rfl ?_
 refine lm rfl rfl rfl rfl rfl ?_
 refine lm rfl rfl rfl rfl rfl ?_
 refine lm rfl rfl rfl rfl rfl ?_
 refine L_op rfl (op_c1 1 rfl (fun w hw => luse_f job g gm fr start n w (hok_cons (hw _ (List.mem_of_getElem? (i := 1) rfl)) (hok_cons ((src_rd 2 rfl) w hw) (hok_nil w))) (by first | assumption | exact sd)) (enters_of Try.func66 kr rfl) rfl rfl rfl rfl rfl (fun t2 q3 => ?_))
 refine lm rfl rfl rfl rfl rfl ?_
 refine lo rfl (pr_cv (zc_i64u fr) Try.underlying3 Try.underlying30 rfl rfl) rfl rfl ?_
 refine lm rfl rfl rfl rfl rfl ?_
 refine lm rfl rfl rfl rfl rfl ?_
 refine L_op rfl (op_bslice (e := 30) (zs := [(b64 fr), (b64 start), (b64 n)]) (qs := [(0, (b64 fr)), (1, (b64 start)), (2, (b64 n))]) (fun _ => by kernel_rfl) rfl rfl rfl rfl (fun g4 => ?_))
 refine L_op rfl (op_cn (fun w hw => lbytes_f [fr, start, n] (some ⟨g4, 0, none⟩) 3 3 w (hok_cons ((src_full (z := 1) 0 rfl rfl sd sd) w hw) (hok_nil w)) sd sd) (enters_of Try.func39 kr rfl) rfl rfl rfl rfl rfl (fun t5 q6 => ?_))
 obtain ⟨B7, d8⟩ := t5
 refine T_slot 26 (.slice B7 (8 * 3) d8) (.slice B7 24 d8) rfl (by congr 1) ?_
 refine T_as 0 _ (.row (.slice B7 24 d8) 5 1 24 ((eights [fr, start, n]).map b8)) rfl (rfl) ?_
 refine L_op rfl (op_alloc (z := .agg [(b8 (0#8)), (b8 (0#8)), (b8 (0#8)), (b8 (0#8)), (b8 (0#8)), (b8 (0#8)), (b8 (0#8)), (b8 (0#8)), (b8 (0#8)), (b8 (0#8)), (b8 (0#8)), (b8 (0#8)), (b8 (0#8)), (b8 (0#8)), (b8 (0#8)), (b8 (0#8)), (b8 (0#8)), (b8 (0#8)), (b8 (0#8)), (b8 (0#8)), (b8 (0#8)), (b8 (0#8)), (b8 (0#8)), (b8 (0#8)), (b8 (0#8)), (b8 (0#8)), (b8 (0#8)), (b8 (0#8)), (b8 (0#8)), (b8 (0#8)), (b8 (0#8)), (b8 (0#8)), (b8 (0#8)), (b8 (0#8)), (b8 (0#8)), (b8 (0#8)), (b8 (0#8)), (b8 (0#8)), (b8 (0#8)), (b8 (0#8)), (b8 (0#8)), (b8 (0#8)), (b8 (0#8)), (b8 (0#8))].toArray) (zs := [(b8 (0#8)), (b8 (0#8)), (b8 (0#8)), (b8 (0#8)), (b8 (0#8)), (b8 (0#8)), (b8 (0#8)), (b8 (0#8)), (b8 (0#8)), (b8 (0#8)), (b8 (0#8)), (b8 (0#8)), (b8 (0#8)), (b8 (0#8)), (b8 (0#8)), (b8 (0#8)), (b8 (0#8)), (b8 (0#8)), (b8 (0#8)), (b8 (0#8)), (b8 (0#8)), (b8 (0#8)), (b8 (0#8)), (b8 (0#8)), (b8 (0#8)), (b8 (0#8)), (b8 (0#8)), (b8 (0#8)), (b8 (0#8)), (b8 (0#8)), (b8 (0#8)), (b8 (0#8)), (b8 (0#8)), (b8 (0#8)), (b8 (0#8)), (b8 (0#8)), (b8 (0#8)), (b8 (0#8)), (b8 (0#8)), (b8 (0#8)), (b8 (0#8)), (b8 (0#8)), (b8 (0#8)), (b8 (0#8))]) kr rfl rfl rfl rfl (fun g9 => ?_))
 refine L_op rfl (op_sto (n := 44) (vs := (((lkey job fr start) ++ (nonc n 0#64)).map b8)) 0 rfl rfl kr (all8_one _) kr sd rfl rfl rfl rfl ?_)
 refine la rfl rfl rfl rfl rfl ?_
 refine L_nil ?_
 refine T_seq ?_
 refine T_regD [.blk g9 88 (((lkey job fr start) ++ (nonc n 0#64)).map b8), .row (.slice B7 24 d8) 5 1 24 ((eights [fr, start, n]).map b8), .blk g4 30 [(b64 fr), (b64 start), (b64 n)], .blk g1 33 [(.int .i64 vk), (.int .i64 vf), (.int .i64 vt), (b64 vs), (.int .i64 vj), (b64 va), (b64 vr), (b64 vq)], .rd (some ⟨g, 0, none⟩) 1 33 33 (job.map b8 ++ [Value.map (some gm)])] 13 13 #[false, false, false, false, false, false, false, false, false, false, false, false, false] hF kr kr ?_
 refine D_pure (i := 0) [0, 1, 2, 3, 4] rfl kr rfl (pr_fa (m := 0) (m' := 0) (z := 31) (by rfl) Try.underlying88 rfl kr rfl rfl) (.inr rfl) rfl rfl ?_
 refine D_pure (i := 2) [0, 1, 2, 3, 4] rfl kr rfl (pr_fa (m := 0) (m' := 32) (z := 11) (by rfl) Try.underlying88 rfl kr rfl rfl) (.inr rfl) rfl rfl ?_
 refine D_pure (i := 4) [0, 1, 2, 3, 4] rfl kr rfl (pr_move rfl rfl) (.inr rfl) rfl rfl ?_
 refine D_take (i := 1) [0, 1, 2, 3, 4] rfl kr rfl (ld_agg (ds := ((List.take 32 ((lkey job fr start) ++ (nonc n 0#64))).map b8)) 0 rfl (by simp [List.map_take, List.map_drop]) Try.underlying50 rfl (fwz (n := 32) kr sd) rfl rfl) rfl rfl rfl ?_
 refine T_slot 29 _ (.agg ((lkey job fr start).map b8).toArray) rfl (by rw [ktake hlk]) ?_
 refine D_take (i := 3) [0, 1, 2, 3, 4] rfl kr rfl (ld_agg (ds := ((List.take 12 (List.drop 32 ((lkey job fr start) ++ (nonc n 0#64)))).map b8)) 0 rfl (by simp [List.map_take, List.map_drop]) Try.underlying86 rfl (fwz (n := 12) kr sd) rfl rfl) rfl rfl rfl ?_
 refine T_slot 31 _ (.agg ((nonc n 0#64).map b8).toArray) rfl (by rw [kdrop hlk hnn]) ?_
 refine D_take (i := 5) [0, 1, 2, 3, 4] rfl kr rfl (ld_agg (ds := [(.int .i64 vk), (.int .i64 vf), (.int .i64 vt), (b64 vs), (.int .i64 vj), (b64 va), (b64 vr), (b64 vq)]) 3 rfl agg_all Try.underlying33 rfl kr rfl rfl) rfl rfl rfl ?_
 refine D_one 6 _ rfl kr rfl (op_cn (fun w hw => lpack_f vk vf vt vs vj va vr vq w (hok_nil w) ) (enters_of Try.func16 kr rfl) rfl rfl rfl rfl rfl (fun t10 q11 => ?_))
 obtain ⟨B12, d13⟩ := t10
 refine D_on [1, 2, 3, 4, 5] rfl ?_
 refine D_one 7 _ rfl kr rfl (op_cn (fun w hw => seal_f (lkey job fr start) (nonc n 0#64) (eights [fr, start, n]) (eights [BitVec.ofInt 64 vk, BitVec.ofInt 64 vf, BitVec.ofInt 64 vt, vs, BitVec.ofInt 64 vj, va, vr, vq]) B7 24 d8 B12 64 d13 w (hok_cons ((src_row 2 rfl) w hw) (hok_cons ((src_row 0 rfl) w hw) (hok_nil w))) (by first | assumption | exact sd) (by first | assumption | exact sd) hh3 hp8 sd sd) (enters_of Try.func54 kr rfl) rfl rfl rfl rfl rfl (fun t14 q15 => ?_))
 obtain ⟨B16, d17⟩ := t14
 refine D_on [2, 3, 4, 5, 6] rfl ?_
 refine D_pure (i := 8) [2, 3, 4, 5, 6] rfl kr rfl (pr_move rfl rfl) (.inr rfl) rfl rfl ?_
 refine D_pure (i := 9) [2, 3, 4, 5, 6] rfl kr rfl (pr_ext (vs := [(.slice B16 (64 + 16) d17), (.int .i64 ((0 : Nat) : Int))]) rfl rfl rfl) (.inr rfl) rfl rfl ?_
 refine T_slot 36 (.slice B16 (64 + 16) d17) (.slice B16 80 d17) rfl (by congr 1) ?_
 refine T_as 0 _ (.row (.slice B16 80 d17) 5 1 80 ((aseal (lkey job fr start) (nonc n 0#64) (eights [fr, start, n]) (eights [BitVec.ofInt 64 vk, BitVec.ofInt 64 vf, BitVec.ofInt 64 vt, vs, BitVec.ofInt 64 vj, va, vr, vq])).map b8)) rfl (rfl) ?_
 refine D_pure (i := 10) [2, 3, 4, 5, 6] rfl kr rfl (pr_ext (vs := [(.slice B16 (64 + 16) d17), (.int .i64 ((0 : Nat) : Int))]) rfl rfl rfl) (.inr rfl) rfl rfl ?_
 refine D_pure (i := 11) [2, 3, 4, 5, 6] rfl kr rfl (pr_assign rfl rfl) (.inr rfl) rfl rfl ?_
 refine D_pure (i := 12) [2, 3, 4, 5, 6] rfl kr rfl (pr_assign rfl rfl) (.inr rfl) rfl rfl ?_
 refine D_done kr ?_
 refine T_seq ?_
 refine Tsr hF rfl ?_
 refine lm rfl rfl rfl rfl rfl ?_
 refine lo rfl (pr_cmp (bo := .neq) (nc_ne (a := 0) (b := 0)) rfl rfl rfl rfl) rfl rfl ?_
 refine L_nil ?_
 refine T_cond_f rfl ?_
 refine T_skip ?_
 refine Tsr hF rfl ?_
 refine lm rfl rfl rfl rfl rfl ?_
 refine lm rfl rfl rfl rfl rfl ?_
 refine L_op rfl (op_append (z := (b8 (0#8))) (size := 1) (bytes := 1) 3 rfl Try.underlying23 kr kr (by decide) (src_row 0 rfl) (all8_one _) sd sd rfl rfl rfl rfl rfl (fun A18 C19 => ?_))
 refine T_as 0 _ (.row (.slice A18 104 C19) 5 1 104 (((eights [fr, start, n]) ++ (aseal (lkey job fr start) (nonc n 0#64) (eights [fr, start, n]) (eights [BitVec.ofInt 64 vk, BitVec.ofInt 64 vf, BitVec.ofInt 64 vt, vs, BitVec.ofInt 64 vj, va, vr, vq]))).map b8)) rfl (by first | rfl | (congr 1; simp; done) | (simp only [List.map_append]; rfl) | (rw [List.map_append]; rfl)) ?_
 refine T_slot 43 (.slice A18 (24 + 80) C19) (.slice A18 104 C19) rfl rfl ?_
 refine la rfl rfl rfl rfl rfl ?_
 refine la rfl rfl rfl rfl rfl ?_
 refine L_nil ?_
 refine T_ret ?_
 refine T_as 0 _ (.row (.slice A18 104 C19) 5 1 104 ((lsealed job fr start n (eights [BitVec.ofInt 64 vk, BitVec.ofInt 64 vf, BitVec.ofInt 64 vt, vs, BitVec.ofInt 64 vj, va, vr, vq])).map b8)) rfl (by rw [lsealed_def]) ?_
 exact T_fin (A18, C19) (by first | trivial | omega | (simp; done)) (res2 rfl rfl rfl) [0] ⟨by decide, rfl⟩ rfl
set_option maxRecDepth 100000 in
set_option maxHeartbeats 4000000 in
theorem lseal_f (job : List (BitVec 8)) (fr : BitVec 64) (start : BitVec 64) (n : BitVec 64) (vk : Int) (vf : Int) (vt : Int) (vs : BitVec 64) (vj : Int) (va : BitVec 64) (vr : BitVec 64) (vq : BitVec 64) (w : World) (hO : HOK [] w) (hj : job.length = 32) : Calls Try.prog 27 [(.agg (job.map b8).toArray), (.int .i64 (i64 fr)), (b64 start), (b64 n), (.agg [(.int .i64 vk), (.int .i64 vf), (.int .i64 vt), (b64 vs), (.int .i64 vj), (b64 va), (b64 vr), (b64 vq)].toArray)].toArray w (Ret (T := Option Addr × Nat) [] w (fun ⟨B, d⟩ => True) (fun ⟨B, d⟩ => (.tuple [(.slice B 104 d), (.int .i64 ((0 : Nat) : Int))].toArray)) (fun ⟨B, d⟩ => [.row (.slice B 104 d) 5 1 104 ((lsealed job fr start n (eights [BitVec.ofInt 64 vk, BitVec.ofInt 64 vf, BitVec.ofInt 64 vt, vs, BitVec.ofInt 64 vj, va, vr, vq])).map b8)])) := by
 have hF : Wid Fence.wide := wid_wide
 refine enter (c := _) Try.func27 rfl [] _ [] (by rw [Try.ntmps27]; rfl) (own_rds hO rfl) ?_
 rw [Try.ntmps27]
 refine T_re [(0, (.agg (job.map b8).toArray)), (1, (.int .i64 (i64 fr))), (2, (b64 start)), (3, (b64 n)), (4, (.agg [(.int .i64 vk), (.int .i64 vf), (.int .i64 vt), (b64 vs), (.int .i64 vj), (b64 va), (b64 vr), (b64 vq)].toArray))] (sc rfl (sc rfl (sc rfl (sc rfl (sc rfl sn))))) ?_
 refine T_he [] [] ⟨by decide, rfl⟩ ?_
 refine Tsr hF rfl ?_
 refine L_op rfl (op_box (zs := (job.map b8)) rfl rfl rfl rfl rfl (fun g1 => ?_))
 refine L_op rfl (op_box (zs := [(.int .i64 vk), (.int .i64 vf), (.int .i64 vt), (b64 vs), (.int .i64 vj), (b64 va), (b64 vr), (b64 vq)]) rfl rfl rfl rfl rfl (fun g2 => ?_))
 refine la rfl rfl rfl rfl rfl ?_
 refine la rfl rfl rfl rfl rfl ?_
 refine L_nil ?_
 refine T_seq ?_
 refine T_regD [.blk g2 33 [(.int .i64 vk), (.int .i64 vf), (.int .i64 vt), (b64 vs), (.int .i64 vj), (b64 va), (b64 vr), (b64 vq)], .blk g1 50 (job.map b8)] 11 11 #[false, false, false, false, false, false, false, false, false, false, false] hF kr kr ?_
 refine D_pure (i := 2) [0, 1] rfl kr rfl (pr_move rfl rfl) (.inr rfl) rfl rfl ?_
 refine D_pure (i := 3) [0, 1] rfl kr rfl (pr_move rfl rfl) (.inr rfl) rfl rfl ?_
 refine D_pure (i := 4) [0, 1] rfl kr rfl (pr_move rfl rfl) (.inr rfl) rfl rfl ?_
 refine D_take (i := 0) [0, 1] rfl kr rfl (ld_agg (ds := (job.map b8)) 1 rfl agg_all Try.underlying50 rfl (fwz (n := 32) kr sd) rfl rfl) rfl rfl rfl ?_
 refine D_take (i := 5) [0, 1] rfl kr rfl (ld_agg (ds := [(.int .i64 vk), (.int .i64 vf), (.int .i64 vt), (b64 vs), (.int .i64 vj), (b64 va), (b64 vr), (b64 vq)]) 0 rfl agg_all Try.underlying33 rfl kr rfl rfl) rfl rfl rfl ?_
 refine D_one 1 _ rfl kr rfl (op_cn (fun w hw => lnew_f job w (hok_nil w) (by first | assumption | exact sd)) (enters_of Try.func49 kr rfl) rfl rfl rfl rfl rfl (fun t3 q4 => ?_))
 obtain ⟨g5, gm6⟩ := t3
 refine D_on [2, 3] rfl ?_
 refine D_one 6 _ rfl kr rfl (op_c1 1 rfl (fun w hw => lrseal_f job g5 gm6 fr start n vk vf vt vs vj va vr vq w (hok_cons (hw _ (List.mem_of_getElem? (i := 1) rfl)) (hok_cons ((src_full (z := 1) 0 rfl sd sd sd) w hw) (hok_nil w))) (by first | assumption | exact sd)) (enters_of Try.func50 kr rfl) rfl rfl rfl rfl rfl (fun t7 q8 => ?_))
 obtain ⟨B9, d10⟩ := t7
 refine D_on [2, 3] rfl ?_
 refine D_pure (i := 7) [2, 3] rfl kr rfl (pr_ext (vs := [(.slice B9 104 d10), (.int .i64 ((0 : Nat) : Int))]) rfl rfl rfl) (.inr rfl) rfl rfl ?_
 refine D_pure (i := 8) [2, 3] rfl kr rfl (pr_ext (vs := [(.slice B9 104 d10), (.int .i64 ((0 : Nat) : Int))]) rfl rfl rfl) (.inr rfl) rfl rfl ?_
 refine D_pure (i := 9) [2, 3] rfl kr rfl (pr_assign rfl rfl) (.inr rfl) rfl rfl ?_
 refine D_pure (i := 10) [2, 3] rfl kr rfl (pr_assign rfl rfl) (.inr rfl) rfl rfl ?_
 refine D_done kr ?_
 refine T_ret ?_
 exact T_fin (B9, d10) (by first | trivial | omega | (simp; done)) (res2 rfl rfl rfl) [0] ⟨by decide, rfl⟩ rfl
end Go.Proofs.Ytlplpmkdebemnaa
namespace Go.Proofs.Ytlplpmkdebemnaa
set_option linter.unusedVariables false
set_option linter.unusedSimpArgs false
set_option linter.unnecessarySimpa false
set_option maxRecDepth 100000
open Go.RowKit Bv Fw

theorem low_lowb (v : BitVec 64) : low (lowb v 8) 8 = v := by
  apply BitVec.eq_of_toNat_eq
  rw [low_toNat _ 8 (by omega) (by rw [lowb_len]; omega), List.take_of_length_le (by rw [lowb_len]; omega), lowb_dig v 8 (by omega), vw_dig 8 8 _ (by omega)]
  have := v.isLt
  have p8 : (256 : Nat) ^ 8 = 18446744073709551616 := rfl
  omega
theorem eights_drop : ∀ (k : Nat) (xs : List (BitVec 64)), List.drop (8 * k) (eights xs) = eights (xs.drop k)
  | 0, xs => rfl
  | k + 1, [] => by simp [eights]
  | k + 1, x :: xs => by
    rw [eights, show 8 * (k + 1) = 8 + 8 * k by omega, ← List.drop_drop, List.drop_left' (lowb_len x 8), eights_drop k xs]; rfl
theorem wds_eights (xs : List (BitVec 64)) : ∀ k, k ≤ xs.length → wds (eights xs) k = xs.take k
  | 0, _ => by simp [wds]
  | k + 1, h => by
    rw [wds, wds_eights xs k (by omega), eights_drop, List.drop_eq_getElem_cons (by omega), eights, List.take_left' (lowb_len _ 8), low_lowb, List.take_succ_eq_append_getElem (by omega)]
theorem ltv_at {p : List (BitVec 8)} {w : List (BitVec 64)} (h : p.length = 64) (hw : wds p 8 = w) (hb : ¬ LBad w) : ltv p = lof w := by subst hw; unfold ltv; rw [if_pos ⟨h, hb⟩]
theorem lte_at {p : List (BitVec 8)} {w : List (BitVec 64)} (h : p.length = 64) (hw : wds p 8 = w) (hb : ¬ LBad w) : lte p = 0 := by subst hw; unfold lte; rw [if_neg (by omega), if_neg (by omega), if_neg hb]

set_option maxRecDepth 100000 in
set_option maxHeartbeats 4000000 in
theorem lread_eq_f (job : List (BitVec 8)) (g : Nat) (gm : Nat) (b : List (BitVec 8)) (A : Option Addr) (c : Nat) (x0 : BitVec 64) (x1 : BitVec 64) (x2 : BitVec 64) (l0 : BitVec 64) (l1 : BitVec 64) (l2 : BitVec 64) (l3 : BitVec 64) (l4 : BitVec 64) (l5 : BitVec 64) (l6 : BitVec 64) (l7 : BitVec 64) (w : World) (hO : HOK [.obj gm (.map #[] 0), .rd (some ⟨g, 0, none⟩) 1 33 33 (job.map b8 ++ [Value.map (some gm)]), .rd A 1 104 c (b.map b8)] w) (hj : job.length = 32) (hb : b.length = 104) (hh : wds (List.take 24 b) 3 = [x0, x1, x2]) (hg : agood (lkey job x0 x1) (nonc x2 0#64) (List.take 24 b) (List.drop 24 b)) (hp : aplain (lkey job x0 x1) (nonc x2 0#64) (List.drop 24 b) = (eights [l0, l1, l2, l3, l4, l5, l6, l7])) (hbad : ¬ LBad [l0, l1, l2, l3, l4, l5, l6, l7]) (hf : l1 = x0) : Calls Try.prog 52 [(.pointer (some ⟨g, 0, none⟩)), (.slice A 104 c)].toArray w (Ret (T := Unit) [gm] w (fun _ => True) (fun _ => (.tuple [(.agg [(.int .i64 ((l0.toNat : Nat) : Int)), (.int .i64 ((l1.toNat : Nat) : Int)), (.int .i64 ((l2.toNat : Nat) : Int)), (b64 l3), (.int .i64 ((l4.toNat : Nat) : Int)), (b64 l5), (b64 l6), (b64 l7)].toArray), (b64 x1), (b64 x2), (.int .i64 ((0 : Nat) : Int))].toArray)) (fun _ => [])) := by
 have hlk := lkey_len job x0 x1
 have hnn := nonc_len x2 0#64
 have huu : ((lkey job x0 x1) ++ (nonc x2 0#64)).length = 44 := by rw [List.length_append, hlk, hnn]
 have hpl : (eights [l0, l1, l2, l3, l4, l5, l6, l7]).length = 64 := eights_eight _ _ _ _ _ _ _ _
 have hpw : wds (eights [l0, l1, l2, l3, l4, l5, l6, l7]) 8 = [l0, l1, l2, l3, l4, l5, l6, l7] := wds_eights _ 8 (Nat.le_refl _)
 have hlv := ltv_at hpl hpw hbad
 have hle := lte_at hpl hpw hbad
 have hF : Wid Fence.wide := wid_wide
 refine enter (c := _) Try.func52 rfl [gm] _ [.obj gm (.map #[] 0), .rd (some ⟨g, 0, none⟩) 1 33 33 (job.map b8 ++ [Value.map (some gm)]), .rd A 1 104 c (b.map b8)] (by rw [Try.ntmps52]; rfl) (own_m hO rfl) ?_
 rw [Try.ntmps52]
 refine T_re [(0, (.pointer (some ⟨g, 0, none⟩))), (1, (.slice A 104 c))] (sc rfl (sc rfl sn)) ?_
 refine T_he [0, 1, 2] [.obj gm (.map #[] 0), .rd (some ⟨g, 0, none⟩) 1 33 33 (job.map b8 ++ [Value.map (some gm)]), .rd A 1 104 c (b.map b8)] ⟨by decide, rfl⟩ ?_
 refine Tsr hF rfl ?_
 refine L_op rfl (op_alloc (z := .agg [(.int .i64 ((0 : Nat) : Int)), (.int .i64 ((0 : Nat) : Int)), (.int .i64 ((0 : Nat) : Int)), (b64 (0#64)), (.int .i64 ((0 : Nat) : Int)), (b64 (0#64)), (b64 (0#64)), (b64 (0#64))].toArray) (zs := [(.int .i64 ((0 : Nat) : Int)), (.int .i64 ((0 : Nat) : Int)), (.int .i64 ((0 : Nat) : Int)), (b64 (0#64)), (.int .i64 ((0 : Nat) : Int)), (b64 (0#64)), (b64 (0#64)), (b64 (0#64))]) kr rfl rfl rfl rfl (fun g1 => ?_))
 refine la rfl rfl rfl rfl rfl ?_
 refine la rfl rfl rfl rfl rfl ?_
 refine la rfl rfl rfl rfl rfl ?_
 refine L_nil ?_
 refine T_seq ?_
 refine T_block ?_
 refine Tsr hF rfl ?_
 refine lm rfl rfl rfl rfl rfl ?_
 refine lo rfl (pr_len_sl Try.underlying23 rfl rfl) rfl rfl ?_
 refine L_op rfl (op_cn (fun w hw => lsize_f  w (hok_nil w) ) (enters_of Try.func28 kr rfl) rfl rfl rfl rfl rfl (fun t2 q3 => ?_))
 refine lo rfl (pr_cmp (bo := .lss) (nc_lt (a := 104) (b := 104)) rfl rfl rfl rfl) rfl rfl ?_
 refine la rfl rfl rfl rfl rfl ?_
 refine L_nil ?_
 refine T_cond_f rfl ?_
 refine Tsr hF rfl ?_
 refine lm rfl rfl rfl rfl rfl ?_
 refine lo rfl (pr_len_sl Try.underlying23 rfl rfl) rfl rfl ?_
 refine L_op rfl (op_cn (fun w hw => lsize_f  w (hok_nil w) ) (enters_of Try.func28 kr rfl) rfl rfl rfl rfl rfl (fun t4 q5 => ?_))
 refine lo rfl (pr_cmp (bo := .gtr) (nc_lt (a := 104) (b := 104)) rfl rfl rfl rfl) rfl rfl ?_
 refine la rfl rfl rfl rfl rfl ?_
 refine L_nil ?_
 refine T_cond_f rfl ?_
 refine T_skip ?_
 refine Tsr hF rfl ?_
 refine lm rfl rfl rfl rfl rfl ?_
 refine L_op rfl (op_slice_rd (l := 0) (u := 24) 3 rfl sd sd Try.underlying23 kr rfl rfl rfl ⟨_, rfl⟩ rfl rfl (fun B6 => ?_))
 refine T_as 0 _ (.rd B6 1 24 c ((List.take 24 b).map b8)) rfl (by congr 1; simp [List.map_take, List.map_drop] <;> omega) ?_
 refine T_slot 26 _ (.slice B6 24 c) rfl (by congr 1) ?_
 refine L_op rfl (op_cn (fun w hw => lwords_f (List.take 24 b) 3 B6 24 c w (hok_cons ((src_rd 0 rfl) w hw) (hok_nil w)) sd sd sd) (enters_of Try.func37 kr rfl) rfl rfl rfl rfl rfl (fun t7 q8 => ?_))
 obtain ⟨B9, d10⟩ := t7
 refine T_as 0 _ (.row (.slice B9 3 d10) 30 1 3 ([x0, x1, x2].map b64)) rfl (by rw [hh]) ?_
 refine la rfl rfl rfl rfl rfl ?_
 refine L_nil ?_
 refine T_seq ?_
 refine T_regD [.row (.slice B9 3 d10) 30 1 3 ([x0, x1, x2].map b64), .rd B6 1 24 c ((List.take 24 b).map b8), .blk g1 33 [(.int .i64 ((0 : Nat) : Int)), (.int .i64 ((0 : Nat) : Int)), (.int .i64 ((0 : Nat) : Int)), (b64 (0#64)), (.int .i64 ((0 : Nat) : Int)), (b64 (0#64)), (b64 (0#64)), (b64 (0#64))], .obj gm (.map #[] 0), .rd (some ⟨g, 0, none⟩) 1 33 33 (job.map b8 ++ [Value.map (some gm)]), .rd A 1 104 c (b.map b8)] 11 14 #[false, false, false, false, false, false, false, false, false, false, false, false, false, false] hF kr kr ?_
 refine D_pure (i := 0) [0, 1, 2, 3, 4, 5] rfl kr rfl (pr_move rfl rfl) (.inr rfl) rfl rfl ?_
 refine D_pure (i := 1) [0, 1, 2, 3, 4, 5] rfl kr rfl (pr_move rfl rfl) (.inr rfl) rfl rfl ?_
 refine D_pure (i := 2) [0, 1, 2, 3, 4, 5] rfl kr rfl (pr_ixs1 (j := 0) (src_none (src_row 0 rfl)) sd Try.underlying69 kr rfl rfl rfl) (.inr rfl) rfl rfl ?_
 refine D_pure (i := 5) [0, 1, 2, 3, 4, 5] rfl kr rfl (pr_move rfl rfl) (.inr rfl) rfl rfl ?_
 refine D_pure (i := 6) [0, 1, 2, 3, 4, 5] rfl kr rfl (pr_ixs1 (j := 1) (src_none (src_row 0 rfl)) sd Try.underlying69 kr rfl rfl rfl) (.inr rfl) rfl rfl ?_
 refine D_pure (i := 8) [0, 1, 2, 3, 4, 5] rfl kr rfl (pr_move rfl rfl) (.inr rfl) rfl rfl ?_
 refine D_pure (i := 9) [0, 1, 2, 3, 4, 5] rfl kr rfl (pr_ixs1 (j := 2) (src_none (src_row 0 rfl)) sd Try.underlying69 kr rfl rfl rfl) (.inr rfl) rfl rfl ?_
 refine D_take (i := 3) [0, 1, 2, 3, 4, 5] rfl kr rfl (ld_src (m := 0) (src_row 0 rfl) (get64 sd) Try.underlying30 rfl rfl rfl) rfl rfl rfl ?_
 refine T_slot 31 (b64 (ath [x0, x1, x2] 0)) (b64 x0) rfl (rfl) ?_
 refine D_pure (i := 4) [0, 1, 2, 3, 4, 5] rfl kr rfl (pr_cv (zc_u64i x0) Try.underlying30 Try.underlying3 rfl rfl) (.inr rfl) rfl rfl ?_
 refine D_take (i := 7) [0, 1, 2, 3, 4, 5] rfl kr rfl (ld_src (m := 1) (src_row 0 rfl) (get64 sd) Try.underlying30 rfl rfl rfl) rfl rfl rfl ?_
 refine T_slot 35 (b64 (ath [x0, x1, x2] 1)) (b64 x1) rfl (rfl) ?_
 refine D_take (i := 10) [0, 1, 2, 3, 4, 5] rfl kr rfl (ld_src (m := 2) (src_row 0 rfl) (get64 sd) Try.underlying30 rfl rfl rfl) rfl rfl rfl ?_
 refine T_slot 38 (b64 (ath [x0, x1, x2] 2)) (b64 x2) rfl (rfl) ?_
 refine D_join (T := Nat) (fun _ => True) (fun g13 => [(1, (.slice A 104 c)), (4, (.pointer (some ⟨g1, 0, none⟩))), (8, (.slice B9 3 d10)), (9, (.pointer (some ⟨g13, 0, none⟩)))]) (fun g13 => [.blk g13 88 (((lkey job x0 x1) ++ (nonc x2 0#64)).map b8), .row (.slice B9 3 d10) 30 1 3 ([x0, x1, x2].map b64), .rd B6 1 24 c ((List.take 24 b).map b8), .blk g1 33 [(.int .i64 ((0 : Nat) : Int)), (.int .i64 ((0 : Nat) : Int)), (.int .i64 ((0 : Nat) : Int)), (b64 (0#64)), (.int .i64 ((0 : Nat) : Int)), (b64 (0#64)), (b64 (0#64)), (b64 (0#64))], .rd (some ⟨g, 0, none⟩) 1 33 33 (job.map b8 ++ [Value.map (some gm)]), .rd A 1 104 c (b.map b8)]) ?_ ?_
 ·
  refine D_all [11, 12] kr (by simp) ⟨⟨_, rfl, rfl, ?_⟩, ⟨_, rfl, rfl, ?_⟩, trivial⟩
  ·
   refine id (op_c1 3 rfl (fun w hw => luse_f job g gm x0 x1 x2 w (hok_cons (hw _ (List.mem_of_getElem? (i := 3) rfl)) (hok_cons ((src_rd 4 rfl) w hw) (hok_nil w))) (by first | assumption | exact sd)) (enters_of Try.func66 kr rfl) rfl rfl rfl rfl rfl (fun t14 q15 => ?_))
   refine D_past kr ?_
   refine D_one 12 _ rfl kr rfl (op_alloc (z := .agg [(b8 (0#8)), (b8 (0#8)), (b8 (0#8)), (b8 (0#8)), (b8 (0#8)), (b8 (0#8)), (b8 (0#8)), (b8 (0#8)), (b8 (0#8)), (b8 (0#8)), (b8 (0#8)), (b8 (0#8)), (b8 (0#8)), (b8 (0#8)), (b8 (0#8)), (b8 (0#8)), (b8 (0#8)), (b8 (0#8)), (b8 (0#8)), (b8 (0#8)), (b8 (0#8)), (b8 (0#8)), (b8 (0#8)), (b8 (0#8)), (b8 (0#8)), (b8 (0#8)), (b8 (0#8)), (b8 (0#8)), (b8 (0#8)), (b8 (0#8)), (b8 (0#8)), (b8 (0#8)), (b8 (0#8)), (b8 (0#8)), (b8 (0#8)), (b8 (0#8)), (b8 (0#8)), (b8 (0#8)), (b8 (0#8)), (b8 (0#8)), (b8 (0#8)), (b8 (0#8)), (b8 (0#8)), (b8 (0#8))].toArray) (zs := [(b8 (0#8)), (b8 (0#8)), (b8 (0#8)), (b8 (0#8)), (b8 (0#8)), (b8 (0#8)), (b8 (0#8)), (b8 (0#8)), (b8 (0#8)), (b8 (0#8)), (b8 (0#8)), (b8 (0#8)), (b8 (0#8)), (b8 (0#8)), (b8 (0#8)), (b8 (0#8)), (b8 (0#8)), (b8 (0#8)), (b8 (0#8)), (b8 (0#8)), (b8 (0#8)), (b8 (0#8)), (b8 (0#8)), (b8 (0#8)), (b8 (0#8)), (b8 (0#8)), (b8 (0#8)), (b8 (0#8)), (b8 (0#8)), (b8 (0#8)), (b8 (0#8)), (b8 (0#8)), (b8 (0#8)), (b8 (0#8)), (b8 (0#8)), (b8 (0#8)), (b8 (0#8)), (b8 (0#8)), (b8 (0#8)), (b8 (0#8)), (b8 (0#8)), (b8 (0#8)), (b8 (0#8)), (b8 (0#8))]) kr rfl rfl rfl rfl (fun g16 => ?_))
   refine D_past kr ?_
   refine D_one 13 _ rfl kr rfl (op_sto (n := 44) (vs := (((lkey job x0 x1) ++ (nonc x2 0#64)).map b8)) 0 rfl rfl kr (all8_one _) kr sd rfl rfl rfl rfl ?_)
   refine D_past kr ?_
   refine D_done kr ?_
   exact T_meet g16 trivial (sc rfl (sc rfl (sc rfl (sc rfl sn)))) [0, 1, 2, 3, 4, 5] ⟨by decide, rfl⟩
  ·
   refine id (op_alloc (z := .agg [(b8 (0#8)), (b8 (0#8)), (b8 (0#8)), (b8 (0#8)), (b8 (0#8)), (b8 (0#8)), (b8 (0#8)), (b8 (0#8)), (b8 (0#8)), (b8 (0#8)), (b8 (0#8)), (b8 (0#8)), (b8 (0#8)), (b8 (0#8)), (b8 (0#8)), (b8 (0#8)), (b8 (0#8)), (b8 (0#8)), (b8 (0#8)), (b8 (0#8)), (b8 (0#8)), (b8 (0#8)), (b8 (0#8)), (b8 (0#8)), (b8 (0#8)), (b8 (0#8)), (b8 (0#8)), (b8 (0#8)), (b8 (0#8)), (b8 (0#8)), (b8 (0#8)), (b8 (0#8)), (b8 (0#8)), (b8 (0#8)), (b8 (0#8)), (b8 (0#8)), (b8 (0#8)), (b8 (0#8)), (b8 (0#8)), (b8 (0#8)), (b8 (0#8)), (b8 (0#8)), (b8 (0#8)), (b8 (0#8))].toArray) (zs := [(b8 (0#8)), (b8 (0#8)), (b8 (0#8)), (b8 (0#8)), (b8 (0#8)), (b8 (0#8)), (b8 (0#8)), (b8 (0#8)), (b8 (0#8)), (b8 (0#8)), (b8 (0#8)), (b8 (0#8)), (b8 (0#8)), (b8 (0#8)), (b8 (0#8)), (b8 (0#8)), (b8 (0#8)), (b8 (0#8)), (b8 (0#8)), (b8 (0#8)), (b8 (0#8)), (b8 (0#8)), (b8 (0#8)), (b8 (0#8)), (b8 (0#8)), (b8 (0#8)), (b8 (0#8)), (b8 (0#8)), (b8 (0#8)), (b8 (0#8)), (b8 (0#8)), (b8 (0#8)), (b8 (0#8)), (b8 (0#8)), (b8 (0#8)), (b8 (0#8)), (b8 (0#8)), (b8 (0#8)), (b8 (0#8)), (b8 (0#8)), (b8 (0#8)), (b8 (0#8)), (b8 (0#8)), (b8 (0#8))]) kr rfl rfl rfl rfl (fun g17 => ?_))
   refine D_on [1, 2, 3, 4, 5, 6] rfl ?_
   refine D_one 11 _ rfl kr rfl (op_c1 4 rfl (fun w hw => luse_f job g gm x0 x1 x2 w (hok_cons (hw _ (List.mem_of_getElem? (i := 4) rfl)) (hok_cons ((src_rd 5 rfl) w hw) (hok_nil w))) (by first | assumption | exact sd)) (enters_of Try.func66 kr rfl) rfl rfl rfl rfl rfl (fun t18 q19 => ?_))
   refine D_past kr ?_
   refine D_one 13 _ rfl kr rfl (op_sto (n := 44) (vs := (((lkey job x0 x1) ++ (nonc x2 0#64)).map b8)) 0 rfl rfl kr (all8_one _) kr sd rfl rfl rfl rfl ?_)
   refine D_past kr ?_
   refine D_done kr ?_
   exact T_meet g17 trivial (sc rfl (sc rfl (sc rfl (sc rfl sn)))) [0, 1, 2, 3, 4, 5] ⟨by decide, rfl⟩
 ·
  rintro g13 -
  refine T_re [(1, (.slice A 104 c)), (4, (.pointer (some ⟨g1, 0, none⟩))), (8, (.slice B9 3 d10)), (9, (.pointer (some ⟨g13, 0, none⟩)))] (sc rfl (sc rfl (sc rfl (sc rfl sn)))) ?_
  refine T_he [0, 1, 2, 3, 4, 5] [.blk g13 88 (((lkey job x0 x1) ++ (nonc x2 0#64)).map b8), .row (.slice B9 3 d10) 30 1 3 ([x0, x1, x2].map b64), .rd B6 1 24 c ((List.take 24 b).map b8), .blk g1 33 [(.int .i64 ((0 : Nat) : Int)), (.int .i64 ((0 : Nat) : Int)), (.int .i64 ((0 : Nat) : Int)), (b64 (0#64)), (.int .i64 ((0 : Nat) : Int)), (b64 (0#64)), (b64 (0#64)), (b64 (0#64))], .rd (some ⟨g, 0, none⟩) 1 33 33 (job.map b8 ++ [Value.map (some gm)]), .rd A 1 104 c (b.map b8)] ⟨by decide, rfl⟩ ?_
  refine T_seq ?_
  refine T_regD [.blk g13 88 (((lkey job x0 x1) ++ (nonc x2 0#64)).map b8), .row (.slice B9 3 d10) 30 1 3 ([x0, x1, x2].map b64), .rd B6 1 24 c ((List.take 24 b).map b8), .blk g1 33 [(.int .i64 ((0 : Nat) : Int)), (.int .i64 ((0 : Nat) : Int)), (.int .i64 ((0 : Nat) : Int)), (b64 (0#64)), (.int .i64 ((0 : Nat) : Int)), (b64 (0#64)), (b64 (0#64)), (b64 (0#64))], .rd (some ⟨g, 0, none⟩) 1 33 33 (job.map b8 ++ [Value.map (some gm)]), .rd A 1 104 c (b.map b8)] 14 14 #[false, false, false, false, false, false, false, false, false, false, false, false, false, false] hF kr kr ?_
  refine D_pure (i := 0) [0, 1, 2, 3, 4, 5] rfl kr rfl (pr_fa (m := 0) (m' := 0) (z := 31) (by rfl) Try.underlying88 rfl kr rfl rfl) (.inr rfl) rfl rfl ?_
  refine D_pure (i := 2) [0, 1, 2, 3, 4, 5] rfl kr rfl (pr_fa (m := 0) (m' := 32) (z := 11) (by rfl) Try.underlying88 rfl kr rfl rfl) (.inr rfl) rfl rfl ?_
  refine D_pure (i := 4) [0, 1, 2, 3, 4, 5] rfl kr rfl (pr_move rfl rfl) (.inr rfl) rfl rfl ?_
  refine D_pure (i := 6) [0, 1, 2, 3, 4, 5] rfl kr rfl (pr_move rfl rfl) (.inr rfl) rfl rfl ?_
  refine D_take (i := 1) [0, 1, 2, 3, 4, 5] rfl kr rfl (ld_agg (ds := ((List.take 32 ((lkey job x0 x1) ++ (nonc x2 0#64))).map b8)) 0 rfl (by simp [List.map_take, List.map_drop]) Try.underlying50 rfl (fwz (n := 32) kr sd) rfl rfl) rfl rfl rfl ?_
  refine T_slot 42 _ (.agg ((lkey job x0 x1).map b8).toArray) rfl (by rw [ktake hlk]) ?_
  refine D_take (i := 3) [0, 1, 2, 3, 4, 5] rfl kr rfl (ld_agg (ds := ((List.take 12 (List.drop 32 ((lkey job x0 x1) ++ (nonc x2 0#64)))).map b8)) 0 rfl (by simp [List.map_take, List.map_drop]) Try.underlying86 rfl (fwz (n := 12) kr sd) rfl rfl) rfl rfl rfl ?_
  refine T_slot 44 _ (.agg ((nonc x2 0#64).map b8).toArray) rfl (by rw [kdrop hlk hnn]) ?_
  refine D_join (T := Option Addr × Nat) (fun _ => True) (fun ⟨B24, d25⟩ => [(4, (.pointer (some ⟨g1, 0, none⟩))), (8, (.slice B9 3 d10)), (10, (.slice B24 64 d25)), (11, (.int .i64 ((0 : Nat) : Int)))]) (fun ⟨B24, d25⟩ => [.row (.slice B24 64 d25) 5 1 64 ((eights [l0, l1, l2, l3, l4, l5, l6, l7]).map b8), .blk g13 88 (((lkey job x0 x1) ++ (nonc x2 0#64)).map b8), .row (.slice B9 3 d10) 30 1 3 ([x0, x1, x2].map b64), .rd B6 1 24 c ((List.take 24 b).map b8), .blk g1 33 [(.int .i64 ((0 : Nat) : Int)), (.int .i64 ((0 : Nat) : Int)), (.int .i64 ((0 : Nat) : Int)), (b64 (0#64)), (.int .i64 ((0 : Nat) : Int)), (b64 (0#64)), (b64 (0#64)), (b64 (0#64))], .rd (some ⟨g, 0, none⟩) 1 33 33 (job.map b8 ++ [Value.map (some gm)]), .rd A 1 104 c (b.map b8)]) ?_ ?_
  ·
   refine D_all [5, 7] kr (by simp) ⟨⟨_, rfl, rfl, ?_⟩, ⟨_, rfl, rfl, ?_⟩, trivial⟩
   ·
    refine id (op_slice_rd (l := 0) (u := 24) 5 rfl sd sd Try.underlying23 kr rfl rfl rfl ⟨_, rfl⟩ rfl rfl (fun B26 => ?_))
    refine T_as 0 _ (.rd B26 1 24 c ((List.take 24 b).map b8)) rfl (by congr 1; simp [List.map_take, List.map_drop] <;> omega) ?_
    refine T_slot 46 _ (.slice B26 24 c) rfl (by congr 1) ?_
    refine D_on [1, 2, 3, 4, 5, 6] rfl ?_
    refine D_one 7 _ rfl kr rfl (op_slice_rd (l := 24) (u := 104) 6 rfl sd sd Try.underlying23 kr rfl rfl ⟨_, rfl⟩ rfl rfl rfl (fun B27 => ?_))
    refine T_as 0 _ (.rd B27 1 (104 - 24) (c - 24) ((List.drop 24 b).map b8)) rfl (by congr 1; first | rfl | (rw [List.take_of_length_le (by simp; omega)]; simp)) ?_
    refine T_slot 48 (.slice B27 (104 - 24) (c - 24)) (.slice B27 80 (c - 24)) rfl (by congr 1) ?_
    refine T_as 0 _ (.rd B27 1 80 (c - 24) ((List.drop 24 b).map b8)) rfl (rfl) ?_
    refine D_on [2, 3, 4, 5, 6, 7] rfl ?_
    refine D_one 8 _ rfl kr rfl (op_cn (fun w hw => open_ok_f (lkey job x0 x1) (nonc x2 0#64) (List.take 24 b) (List.drop 24 b) B26 24 c B27 80 (c - 24) w (hok_cons ((src_rd 1 rfl) w hw) (hok_cons ((src_rd 0 rfl) w hw) (hok_nil w))) (by first | assumption | exact sd) (by first | assumption | exact sd) (by first | assumption | exact sd) (by first | assumption | exact sd) sd sd sd hg) (enters_of Try.func56 kr rfl) rfl rfl rfl rfl rfl (fun t28 q29 => ?_))
    obtain ⟨B30, d31⟩ := t28
    refine D_on [3, 4, 5, 6, 7, 8] rfl ?_
    refine D_pure (i := 9) [3, 4, 5, 6, 7, 8] rfl kr rfl (pr_move rfl rfl) (.inr rfl) rfl rfl ?_
    refine D_pure (i := 10) [3, 4, 5, 6, 7, 8] rfl kr rfl (pr_ext (vs := [(.slice B30 (80 - 16) d31), (.int .i64 ((0 : Nat) : Int))]) rfl rfl rfl) (.inr rfl) rfl rfl ?_
    refine T_slot 50 (.slice B30 (80 - 16) d31) (.slice B30 64 d31) rfl (by congr 1) ?_
    refine T_as 0 _ (.row (.slice B30 64 d31) 5 1 64 ((eights [l0, l1, l2, l3, l4, l5, l6, l7]).map b8)) rfl (by rw [hp]) ?_
    refine D_pure (i := 11) [3, 4, 5, 6, 7, 8] rfl kr rfl (pr_ext (vs := [(.slice B30 (80 - 16) d31), (.int .i64 ((0 : Nat) : Int))]) rfl rfl rfl) (.inr rfl) rfl rfl ?_
    refine D_pure (i := 12) [3, 4, 5, 6, 7, 8] rfl kr rfl (pr_assign rfl rfl) (.inr rfl) rfl rfl ?_
    refine D_pure (i := 13) [3, 4, 5, 6, 7, 8] rfl kr rfl (pr_assign rfl rfl) (.inr rfl) rfl rfl ?_
    refine D_done kr ?_
    exact T_meet (B30, d31) trivial (sc rfl (sc rfl (sc rfl (sc rfl sn)))) [0, 3, 4, 5, 6, 7, 8] ⟨by decide, rfl⟩
   ·
    refine id (op_slice_rd (l := 24) (u := 104) 5 rfl sd sd Try.underlying23 kr rfl rfl ⟨_, rfl⟩ rfl rfl rfl (fun B32 => ?_))
    refine T_as 0 _ (.rd B32 1 (104 - 24) (c - 24) ((List.drop 24 b).map b8)) rfl (by congr 1; first | rfl | (rw [List.take_of_length_le (by simp; omega)]; simp)) ?_
    refine T_slot 48 (.slice B32 (104 - 24) (c - 24)) (.slice B32 80 (c - 24)) rfl (by congr 1) ?_
    refine T_as 0 _ (.rd B32 1 80 (c - 24) ((List.drop 24 b).map b8)) rfl (rfl) ?_
    refine D_on [1, 2, 3, 4, 5, 6] rfl ?_
    refine D_one 5 _ rfl kr rfl (op_slice_rd (l := 0) (u := 24) 6 rfl sd sd Try.underlying23 kr rfl rfl rfl ⟨_, rfl⟩ rfl rfl (fun B33 => ?_))
    refine T_as 0 _ (.rd B33 1 24 c ((List.take 24 b).map b8)) rfl (by congr 1; simp [List.map_take, List.map_drop] <;> omega) ?_
    refine T_slot 46 _ (.slice B33 24 c) rfl (by congr 1) ?_
    refine D_on [2, 3, 4, 5, 6, 7] rfl ?_
    refine D_one 8 _ rfl kr rfl (op_cn (fun w hw => open_ok_f (lkey job x0 x1) (nonc x2 0#64) (List.take 24 b) (List.drop 24 b) B33 24 c B32 80 (c - 24) w (hok_cons ((src_rd 0 rfl) w hw) (hok_cons ((src_rd 1 rfl) w hw) (hok_nil w))) (by first | assumption | exact sd) (by first | assumption | exact sd) (by first | assumption | exact sd) (by first | assumption | exact sd) sd sd sd hg) (enters_of Try.func56 kr rfl) rfl rfl rfl rfl rfl (fun t34 q35 => ?_))
    obtain ⟨B36, d37⟩ := t34
    refine D_on [3, 4, 5, 6, 7, 8] rfl ?_
    refine D_pure (i := 9) [3, 4, 5, 6, 7, 8] rfl kr rfl (pr_move rfl rfl) (.inr rfl) rfl rfl ?_
    refine D_pure (i := 10) [3, 4, 5, 6, 7, 8] rfl kr rfl (pr_ext (vs := [(.slice B36 (80 - 16) d37), (.int .i64 ((0 : Nat) : Int))]) rfl rfl rfl) (.inr rfl) rfl rfl ?_
    refine T_slot 50 (.slice B36 (80 - 16) d37) (.slice B36 64 d37) rfl (by congr 1) ?_
    refine T_as 0 _ (.row (.slice B36 64 d37) 5 1 64 ((eights [l0, l1, l2, l3, l4, l5, l6, l7]).map b8)) rfl (by rw [hp]) ?_
    refine D_pure (i := 11) [3, 4, 5, 6, 7, 8] rfl kr rfl (pr_ext (vs := [(.slice B36 (80 - 16) d37), (.int .i64 ((0 : Nat) : Int))]) rfl rfl rfl) (.inr rfl) rfl rfl ?_
    refine D_pure (i := 12) [3, 4, 5, 6, 7, 8] rfl kr rfl (pr_assign rfl rfl) (.inr rfl) rfl rfl ?_
    refine D_pure (i := 13) [3, 4, 5, 6, 7, 8] rfl kr rfl (pr_assign rfl rfl) (.inr rfl) rfl rfl ?_
    refine D_done kr ?_
    exact T_meet (B36, d37) trivial (sc rfl (sc rfl (sc rfl (sc rfl sn)))) [0, 3, 4, 5, 6, 7, 8] ⟨by decide, rfl⟩
  ·
   rintro ⟨B24, d25⟩ -
   refine T_re [(4, (.pointer (some ⟨g1, 0, none⟩))), (8, (.slice B9 3 d10)), (10, (.slice B24 64 d25)), (11, (.int .i64 ((0 : Nat) : Int)))] (sc rfl (sc rfl (sc rfl (sc rfl sn)))) ?_
   refine T_he [0, 1, 2, 3, 4, 5, 6] [.row (.slice B24 64 d25) 5 1 64 ((eights [l0, l1, l2, l3, l4, l5, l6, l7]).map b8), .blk g13 88 (((lkey job x0 x1) ++ (nonc x2 0#64)).map b8), .row (.slice B9 3 d10) 30 1 3 ([x0, x1, x2].map b64), .rd B6 1 24 c ((List.take 24 b).map b8), .blk g1 33 [(.int .i64 ((0 : Nat) : Int)), (.int .i64 ((0 : Nat) : Int)), (.int .i64 ((0 : Nat) : Int)), (b64 (0#64)), (.int .i64 ((0 : Nat) : Int)), (b64 (0#64)), (b64 (0#64)), (b64 (0#64))], .rd (some ⟨g, 0, none⟩) 1 33 33 (job.map b8 ++ [Value.map (some gm)]), .rd A 1 104 c (b.map b8)] ⟨by decide, rfl⟩ ?_
   refine T_seq ?_
   refine Tsr hF rfl ?_
   refine lm rfl rfl rfl rfl rfl ?_
   refine lo rfl (pr_cmp (bo := .neq) (nc_ne (a := 0) (b := 0)) rfl rfl rfl rfl) rfl rfl ?_
   refine L_nil ?_
   refine T_cond_f rfl ?_
   refine T_skip ?_
   refine Tsr hF rfl ?_
   refine lm rfl rfl rfl rfl rfl ?_
   refine L_op rfl (op_cn (fun w hw => ltake_f (eights [l0, l1, l2, l3, l4, l5, l6, l7]) B24 64 d25 w (hok_cons ((src_row 0 rfl) w hw) (hok_nil w)) sd sd) (enters_of Try.func13 kr rfl) rfl rfl rfl rfl rfl (fun t38 q39 => ?_))
   refine lm rfl rfl rfl rfl rfl ?_
   refine lo rfl (pr_ext (vs := [(.agg (ltv (eights [l0, l1, l2, l3, l4, l5, l6, l7])).toArray), (.int .i64 (((lte (eights [l0, l1, l2, l3, l4, l5, l6, l7])) : Nat) : Int))]) rfl rfl rfl) rfl rfl ?_
   refine T_slot 59 _ (.agg [(.int .i64 ((l0.toNat : Nat) : Int)), (.int .i64 ((l1.toNat : Nat) : Int)), (.int .i64 ((l2.toNat : Nat) : Int)), (b64 l3), (.int .i64 ((l4.toNat : Nat) : Int)), (b64 l5), (b64 l6), (b64 l7)].toArray) rfl (by rw [hlv]; rfl) ?_
   refine lo rfl (pr_ext (vs := [(.agg (ltv (eights [l0, l1, l2, l3, l4, l5, l6, l7])).toArray), (.int .i64 (((lte (eights [l0, l1, l2, l3, l4, l5, l6, l7])) : Nat) : Int))]) rfl rfl rfl) rfl rfl ?_
   refine T_slot 60 _ (.int .i64 ((0 : Nat) : Int)) rfl (by rw [hle]) ?_
   refine L_op rfl (op_alloc (z := .agg [(.int .i64 ((0 : Nat) : Int)), (.int .i64 ((0 : Nat) : Int)), (.int .i64 ((0 : Nat) : Int)), (b64 (0#64)), (.int .i64 ((0 : Nat) : Int)), (b64 (0#64)), (b64 (0#64)), (b64 (0#64))].toArray) (zs := [(.int .i64 ((0 : Nat) : Int)), (.int .i64 ((0 : Nat) : Int)), (.int .i64 ((0 : Nat) : Int)), (b64 (0#64)), (.int .i64 ((0 : Nat) : Int)), (b64 (0#64)), (b64 (0#64)), (b64 (0#64))]) kr rfl rfl rfl rfl (fun g40 => ?_))
   refine L_op rfl (op_sto (n := 8) (vs := [(.int .i64 ((l0.toNat : Nat) : Int)), (.int .i64 ((l1.toNat : Nat) : Int)), (.int .i64 ((l2.toNat : Nat) : Int)), (b64 l3), (.int .i64 ((l4.toNat : Nat) : Int)), (b64 l5), (b64 l6), (b64 l7)]) 0 rfl rfl kr (by simp [Value.oneCell']) kr kr rfl rfl rfl rfl ?_)
   refine la rfl rfl rfl rfl rfl ?_
   refine L_nil ?_
   refine T_seq ?_
   refine T_seq ?_
   refine T_regD [.blk g40 33 [(.int .i64 ((l0.toNat : Nat) : Int)), (.int .i64 ((l1.toNat : Nat) : Int)), (.int .i64 ((l2.toNat : Nat) : Int)), (b64 l3), (.int .i64 ((l4.toNat : Nat) : Int)), (b64 l5), (b64 l6), (b64 l7)], .row (.slice B24 64 d25) 5 1 64 ((eights [l0, l1, l2, l3, l4, l5, l6, l7]).map b8), .blk g13 88 (((lkey job x0 x1) ++ (nonc x2 0#64)).map b8), .row (.slice B9 3 d10) 30 1 3 ([x0, x1, x2].map b64), .rd B6 1 24 c ((List.take 24 b).map b8), .blk g1 33 [(.int .i64 ((0 : Nat) : Int)), (.int .i64 ((0 : Nat) : Int)), (.int .i64 ((0 : Nat) : Int)), (b64 (0#64)), (.int .i64 ((0 : Nat) : Int)), (b64 (0#64)), (b64 (0#64)), (b64 (0#64))], .rd (some ⟨g, 0, none⟩) 1 33 33 (job.map b8 ++ [Value.map (some gm)]), .rd A 1 104 c (b.map b8)] 11 11 #[false, false, false, false, false, false, false, false, false, false, false] hF kr kr ?_
   refine D_pure (i := 0) [0, 1, 2, 3, 4, 5, 6, 7] rfl kr rfl (pr_move rfl rfl) (.inr rfl) rfl rfl ?_
   refine D_pure (i := 1) [0, 1, 2, 3, 4, 5, 6, 7] rfl kr rfl (pr_cmp (bo := .eql) (nc_eq (a := 0) (b := 0)) rfl rfl rfl rfl) (.inr rfl) rfl rfl ?_
   refine D_pure (i := 2) [0, 1, 2, 3, 4, 5, 6, 7] rfl kr rfl (pr_move rfl rfl) (.inr rfl) rfl rfl ?_
   refine D_pure (i := 3) [0, 1, 2, 3, 4, 5, 6, 7] rfl kr rfl (pr_fa (m := 0) (m' := 1) (z := 0) (by rfl) Try.underlying33 rfl kr rfl rfl) (.inr rfl) rfl rfl ?_
   refine D_pure (i := 6) [0, 1, 2, 3, 4, 5, 6, 7] rfl kr rfl (pr_move rfl rfl) (.inr rfl) rfl rfl ?_
   refine D_pure (i := 7) [0, 1, 2, 3, 4, 5, 6, 7] rfl kr rfl (pr_ixs1 (j := 0) (src_none (src_row 3 rfl)) sd Try.underlying69 kr rfl rfl rfl) (.inr rfl) rfl rfl ?_
   refine D_take (i := 4) [0, 1, 2, 3, 4, 5, 6, 7] rfl kr rfl (ld_blk 0 rfl rfl Try.underlying3 rfl rfl rfl) rfl rfl rfl ?_
   refine D_pure (i := 5) [0, 1, 2, 3, 4, 5, 6, 7] rfl kr rfl (pr_cv (ni_u64 (a := l1.toNat) sd) Try.underlying3 Try.underlying30 rfl rfl) (.inr rfl) rfl rfl ?_
   refine D_take (i := 8) [0, 1, 2, 3, 4, 5, 6, 7] rfl kr rfl (ld_src (m := 0) (src_row 3 rfl) (get64 sd) Try.underlying30 rfl rfl rfl) rfl rfl rfl ?_
   refine T_slot 69 (b64 (ath [x0, x1, x2] 0)) (b64 x0) rfl (rfl) ?_
   refine D_pure (i := 9) [0, 1, 2, 3, 4, 5, 6, 7] rfl kr rfl (pr_cmp (bo := .neq) (nc_ne (a := l1.toNat) (b := x0.toNat)) rfl rfl rfl rfl) (.inr rfl) rfl rfl ?_
   refine D_pure (i := 10) [0, 1, 2, 3, 4, 5, 6, 7] rfl kr rfl (pr_pick_t rfl rfl rfl) (.inr rfl) rfl rfl ?_
   refine D_done kr ?_
   refine T_cond_no (t := (l1.toNat != x0.toNat)) rfl (by rw [hf]; simp) ?_
   refine T_skip ?_
   refine T_seq ?_
   refine Tsr hF rfl ?_
   refine lm rfl rfl rfl rfl rfl ?_
   refine lo rfl (pr_cmp (bo := .neq) (nc_ne (a := 0) (b := 0)) rfl rfl rfl rfl) rfl rfl ?_
   refine L_nil ?_
   refine T_cond_f rfl ?_
   refine T_skip ?_
   refine T_seq ?_
   refine T_regD [.blk g40 33 [(.int .i64 ((l0.toNat : Nat) : Int)), (.int .i64 ((l1.toNat : Nat) : Int)), (.int .i64 ((l2.toNat : Nat) : Int)), (b64 l3), (.int .i64 ((l4.toNat : Nat) : Int)), (b64 l5), (b64 l6), (b64 l7)], .row (.slice B24 64 d25) 5 1 64 ((eights [l0, l1, l2, l3, l4, l5, l6, l7]).map b8), .blk g13 88 (((lkey job x0 x1) ++ (nonc x2 0#64)).map b8), .row (.slice B9 3 d10) 30 1 3 ([x0, x1, x2].map b64), .rd B6 1 24 c ((List.take 24 b).map b8), .blk g1 33 [(.int .i64 ((0 : Nat) : Int)), (.int .i64 ((0 : Nat) : Int)), (.int .i64 ((0 : Nat) : Int)), (b64 (0#64)), (.int .i64 ((0 : Nat) : Int)), (b64 (0#64)), (b64 (0#64)), (b64 (0#64))], .rd (some ⟨g, 0, none⟩) 1 33 33 (job.map b8 ++ [Value.map (some gm)]), .rd A 1 104 c (b.map b8)] 7 11 #[false, false, false, false, false, false, false, false, false, false, false] hF kr kr ?_
   refine D_pure (i := 1) [0, 1, 2, 3, 4, 5, 6, 7] rfl kr rfl (pr_move rfl rfl) (.inr rfl) rfl rfl ?_
   refine D_pure (i := 2) [0, 1, 2, 3, 4, 5, 6, 7] rfl kr rfl (pr_ixs1 (j := 1) (src_none (src_row 3 rfl)) sd Try.underlying69 kr rfl rfl rfl) (.inr rfl) rfl rfl ?_
   refine D_pure (i := 4) [0, 1, 2, 3, 4, 5, 6, 7] rfl kr rfl (pr_move rfl rfl) (.inr rfl) rfl rfl ?_
   refine D_pure (i := 5) [0, 1, 2, 3, 4, 5, 6, 7] rfl kr rfl (pr_ixs1 (j := 2) (src_none (src_row 3 rfl)) sd Try.underlying69 kr rfl rfl rfl) (.inr rfl) rfl rfl ?_
   refine D_take (i := 0) [0, 1, 2, 3, 4, 5, 6, 7] rfl kr rfl (ld_agg (ds := [(.int .i64 ((l0.toNat : Nat) : Int)), (.int .i64 ((l1.toNat : Nat) : Int)), (.int .i64 ((l2.toNat : Nat) : Int)), (b64 l3), (.int .i64 ((l4.toNat : Nat) : Int)), (b64 l5), (b64 l6), (b64 l7)]) 0 rfl agg_all Try.underlying33 rfl kr rfl rfl) rfl rfl rfl ?_
   refine D_join (T := Unit) (fun _ => True) (fun _ => [(4, (.pointer (some ⟨g1, 0, none⟩))), (5, (b64 x1)), (6, (b64 x2)), (7, (.int .i64 ((0 : Nat) : Int)))]) (fun _ => [.blk g1 33 [(.int .i64 ((l0.toNat : Nat) : Int)), (.int .i64 ((l1.toNat : Nat) : Int)), (.int .i64 ((l2.toNat : Nat) : Int)), (b64 l3), (.int .i64 ((l4.toNat : Nat) : Int)), (b64 l5), (b64 l6), (b64 l7)], .blk g40 33 [(.int .i64 ((l0.toNat : Nat) : Int)), (.int .i64 ((l1.toNat : Nat) : Int)), (.int .i64 ((l2.toNat : Nat) : Int)), (b64 l3), (.int .i64 ((l4.toNat : Nat) : Int)), (b64 l5), (b64 l6), (b64 l7)], .row (.slice B24 64 d25) 5 1 64 ((eights [l0, l1, l2, l3, l4, l5, l6, l7]).map b8), .blk g13 88 (((lkey job x0 x1) ++ (nonc x2 0#64)).map b8), .row (.slice B9 3 d10) 30 1 3 ([x0, x1, x2].map b64), .rd B6 1 24 c ((List.take 24 b).map b8), .rd (some ⟨g, 0, none⟩) 1 33 33 (job.map b8 ++ [Value.map (some gm)]), .rd A 1 104 c (b.map b8)]) ?_ ?_
   ·
    refine D_all [3, 6, 7] kr (by simp) ⟨⟨_, rfl, rfl, ?_⟩, ⟨_, rfl, rfl, ?_⟩, ⟨_, rfl, rfl, ?_⟩, trivial⟩
    ·
     refine id (op_ld (ld_src (m := 1) (src_row 3 rfl) (get64 sd) Try.underlying30 rfl rfl rfl) rfl rfl ?_)
     refine T_slot 79 (b64 (ath [x0, x1, x2] 1)) (b64 x1) rfl (rfl) ?_
     refine D_on [0, 1, 2, 3, 4, 5, 6, 7] rfl ?_
     refine D_all [6, 7] kr (by simp) ⟨⟨_, rfl, rfl, ?_⟩, ⟨_, rfl, rfl, ?_⟩, trivial⟩
     ·
      refine id (op_ld (ld_src (m := 2) (src_row 3 rfl) (get64 sd) Try.underlying30 rfl rfl rfl) rfl rfl ?_)
      refine T_slot 82 (b64 (ath [x0, x1, x2] 2)) (b64 x2) rfl (rfl) ?_
      refine D_on [0, 1, 2, 3, 4, 5, 6, 7] rfl ?_
      refine D_one 7 _ rfl kr rfl (op_sto (n := 8) (vs := [(.int .i64 ((l0.toNat : Nat) : Int)), (.int .i64 ((l1.toNat : Nat) : Int)), (.int .i64 ((l2.toNat : Nat) : Int)), (b64 l3), (.int .i64 ((l4.toNat : Nat) : Int)), (b64 l5), (b64 l6), (b64 l7)]) 5 rfl rfl kr (by simp [Value.oneCell']) kr kr rfl rfl rfl rfl ?_)
      refine D_past kr ?_
      refine D_pure (i := 8) [] rfl kr rfl (pr_assign rfl rfl) (.inl kr) rfl rfl ?_
      refine D_pure (i := 9) [] rfl kr rfl (pr_assign rfl rfl) (.inl kr) rfl rfl ?_
      refine D_pure (i := 10) [] rfl kr rfl (pr_assign rfl rfl) (.inl kr) rfl rfl ?_
      refine D_done kr ?_
      exact T_meet () trivial (sc rfl (sc rfl (sc rfl (sc rfl sn)))) [0, 1, 2, 3, 4, 5, 6, 7] ⟨by decide, rfl⟩
     ·
      refine id (op_sto (n := 8) (vs := [(.int .i64 ((l0.toNat : Nat) : Int)), (.int .i64 ((l1.toNat : Nat) : Int)), (.int .i64 ((l2.toNat : Nat) : Int)), (b64 l3), (.int .i64 ((l4.toNat : Nat) : Int)), (b64 l5), (b64 l6), (b64 l7)]) 5 rfl rfl kr (by simp [Value.oneCell']) kr kr rfl rfl rfl rfl ?_)
      refine D_past kr ?_
      refine D_pure (i := 8) [] rfl kr rfl (pr_assign rfl rfl) (.inl kr) rfl rfl ?_
      refine D_one 6 _ rfl kr rfl (op_ld (ld_src (m := 2) (src_row 4 rfl) (get64 sd) Try.underlying30 rfl rfl rfl) rfl rfl ?_)
      refine T_slot 82 (b64 (ath [x0, x1, x2] 2)) (b64 x2) rfl (rfl) ?_
      refine D_past kr ?_
      refine D_pure (i := 9) [] rfl kr rfl (pr_assign rfl rfl) (.inl kr) rfl rfl ?_
      refine D_pure (i := 10) [] rfl kr rfl (pr_assign rfl rfl) (.inl kr) rfl rfl ?_
      refine D_done kr ?_
      exact T_meet () trivial (sc rfl (sc rfl (sc rfl (sc rfl sn)))) [0, 1, 2, 3, 4, 5, 6, 7] ⟨by decide, rfl⟩
    ·
     refine id (op_ld (ld_src (m := 2) (src_row 3 rfl) (get64 sd) Try.underlying30 rfl rfl rfl) rfl rfl ?_)
     refine T_slot 82 (b64 (ath [x0, x1, x2] 2)) (b64 x2) rfl (rfl) ?_
     refine D_on [0, 1, 2, 3, 4, 5, 6, 7] rfl ?_
     refine D_all [3, 7] kr (by simp) ⟨⟨_, rfl, rfl, ?_⟩, ⟨_, rfl, rfl, ?_⟩, trivial⟩
     ·
      refine id (op_ld (ld_src (m := 1) (src_row 3 rfl) (get64 sd) Try.underlying30 rfl rfl rfl) rfl rfl ?_)
      refine T_slot 79 (b64 (ath [x0, x1, x2] 1)) (b64 x1) rfl (rfl) ?_
      refine D_on [0, 1, 2, 3, 4, 5, 6, 7] rfl ?_
      refine D_one 7 _ rfl kr rfl (op_sto (n := 8) (vs := [(.int .i64 ((l0.toNat : Nat) : Int)), (.int .i64 ((l1.toNat : Nat) : Int)), (.int .i64 ((l2.toNat : Nat) : Int)), (b64 l3), (.int .i64 ((l4.toNat : Nat) : Int)), (b64 l5), (b64 l6), (b64 l7)]) 5 rfl rfl kr (by simp [Value.oneCell']) kr kr rfl rfl rfl rfl ?_)
      refine D_past kr ?_
      refine D_pure (i := 8) [] rfl kr rfl (pr_assign rfl rfl) (.inl kr) rfl rfl ?_
      refine D_pure (i := 9) [] rfl kr rfl (pr_assign rfl rfl) (.inl kr) rfl rfl ?_
      refine D_pure (i := 10) [] rfl kr rfl (pr_assign rfl rfl) (.inl kr) rfl rfl ?_
      refine D_done kr ?_
      exact T_meet () trivial (sc rfl (sc rfl (sc rfl (sc rfl sn)))) [0, 1, 2, 3, 4, 5, 6, 7] ⟨by decide, rfl⟩
     ·
      refine id (op_sto (n := 8) (vs := [(.int .i64 ((l0.toNat : Nat) : Int)), (.int .i64 ((l1.toNat : Nat) : Int)), (.int .i64 ((l2.toNat : Nat) : Int)), (b64 l3), (.int .i64 ((l4.toNat : Nat) : Int)), (b64 l5), (b64 l6), (b64 l7)]) 5 rfl rfl kr (by simp [Value.oneCell']) kr kr rfl rfl rfl rfl ?_)
      refine D_past kr ?_
      refine D_one 3 _ rfl kr rfl (op_ld (ld_src (m := 1) (src_row 4 rfl) (get64 sd) Try.underlying30 rfl rfl rfl) rfl rfl ?_)
      refine T_slot 79 (b64 (ath [x0, x1, x2] 1)) (b64 x1) rfl (rfl) ?_
      refine D_past kr ?_
      refine D_pure (i := 8) [] rfl kr rfl (pr_assign rfl rfl) (.inl kr) rfl rfl ?_
      refine D_pure (i := 9) [] rfl kr rfl (pr_assign rfl rfl) (.inl kr) rfl rfl ?_
      refine D_pure (i := 10) [] rfl kr rfl (pr_assign rfl rfl) (.inl kr) rfl rfl ?_
      refine D_done kr ?_
      exact T_meet () trivial (sc rfl (sc rfl (sc rfl (sc rfl sn)))) [0, 1, 2, 3, 4, 5, 6, 7] ⟨by decide, rfl⟩
    ·
     refine id (op_sto (n := 8) (vs := [(.int .i64 ((l0.toNat : Nat) : Int)), (.int .i64 ((l1.toNat : Nat) : Int)), (.int .i64 ((l2.toNat : Nat) : Int)), (b64 l3), (.int .i64 ((l4.toNat : Nat) : Int)), (b64 l5), (b64 l6), (b64 l7)]) 5 rfl rfl kr (by simp [Value.oneCell']) kr kr rfl rfl rfl rfl ?_)
     refine D_past kr ?_
     refine D_all [3, 6] kr (by simp) ⟨⟨_, rfl, rfl, ?_⟩, ⟨_, rfl, rfl, ?_⟩, trivial⟩
     ·
      refine id (op_ld (ld_src (m := 1) (src_row 4 rfl) (get64 sd) Try.underlying30 rfl rfl rfl) rfl rfl ?_)
      refine T_slot 79 (b64 (ath [x0, x1, x2] 1)) (b64 x1) rfl (rfl) ?_
      refine D_past kr ?_
      refine D_pure (i := 8) [] rfl kr rfl (pr_assign rfl rfl) (.inl kr) rfl rfl ?_
      refine D_one 6 _ rfl kr rfl (op_ld (ld_src (m := 2) (src_row 4 rfl) (get64 sd) Try.underlying30 rfl rfl rfl) rfl rfl ?_)
      refine T_slot 82 (b64 (ath [x0, x1, x2] 2)) (b64 x2) rfl (rfl) ?_
      refine D_past kr ?_
      refine D_pure (i := 9) [] rfl kr rfl (pr_assign rfl rfl) (.inl kr) rfl rfl ?_
      refine D_pure (i := 10) [] rfl kr rfl (pr_assign rfl rfl) (.inl kr) rfl rfl ?_
      refine D_done kr ?_
      exact T_meet () trivial (sc rfl (sc rfl (sc rfl (sc rfl sn)))) [0, 1, 2, 3, 4, 5, 6, 7] ⟨by decide, rfl⟩
     ·
      refine id (op_ld (ld_src (m := 2) (src_row 4 rfl) (get64 sd) Try.underlying30 rfl rfl rfl) rfl rfl ?_)
      refine T_slot 82 (b64 (ath [x0, x1, x2] 2)) (b64 x2) rfl (rfl) ?_
      refine D_past kr ?_
      refine D_one 3 _ rfl kr rfl (op_ld (ld_src (m := 1) (src_row 4 rfl) (get64 sd) Try.underlying30 rfl rfl rfl) rfl rfl ?_)
      refine T_slot 79 (b64 (ath [x0, x1, x2] 1)) (b64 x1) rfl (rfl) ?_
      refine D_past kr ?_
      refine D_pure (i := 8) [] rfl kr rfl (pr_assign rfl rfl) (.inl kr) rfl rfl ?_
      refine D_pure (i := 9) [] rfl kr rfl (pr_assign rfl rfl) (.inl kr) rfl rfl ?_
      refine D_pure (i := 10) [] rfl kr rfl (pr_assign rfl rfl) (.inl kr) rfl rfl ?_
      refine D_done kr ?_
      exact T_meet () trivial (sc rfl (sc rfl (sc rfl (sc rfl sn)))) [0, 1, 2, 3, 4, 5, 6, 7] ⟨by decide, rfl⟩
   ·
    rintro ⟨⟩ -
    refine T_re [(4, (.pointer (some ⟨g1, 0, none⟩))), (5, (b64 x1)), (6, (b64 x2)), (7, (.int .i64 ((0 : Nat) : Int)))] (sc rfl (sc rfl (sc rfl (sc rfl sn)))) ?_
    refine T_he [0, 1, 2, 3, 4, 5, 6, 7] [.blk g1 33 [(.int .i64 ((l0.toNat : Nat) : Int)), (.int .i64 ((l1.toNat : Nat) : Int)), (.int .i64 ((l2.toNat : Nat) : Int)), (b64 l3), (.int .i64 ((l4.toNat : Nat) : Int)), (b64 l5), (b64 l6), (b64 l7)], .blk g40 33 [(.int .i64 ((l0.toNat : Nat) : Int)), (.int .i64 ((l1.toNat : Nat) : Int)), (.int .i64 ((l2.toNat : Nat) : Int)), (b64 l3), (.int .i64 ((l4.toNat : Nat) : Int)), (b64 l5), (b64 l6), (b64 l7)], .row (.slice B24 64 d25) 5 1 64 ((eights [l0, l1, l2, l3, l4, l5, l6, l7]).map b8), .blk g13 88 (((lkey job x0 x1) ++ (nonc x2 0#64)).map b8), .row (.slice B9 3 d10) 30 1 3 ([x0, x1, x2].map b64), .rd B6 1 24 c ((List.take 24 b).map b8), .rd (some ⟨g, 0, none⟩) 1 33 33 (job.map b8 ++ [Value.map (some gm)]), .rd A 1 104 c (b.map b8)] ⟨by decide, rfl⟩ ?_
    refine T_ret ?_
    exact T_fin () (by first | trivial | omega | (simp; done)) (rescttt 0 rfl rfl rfl Try.underlying33 rfl kr rfl rfl rfl) [] ⟨by decide, rfl⟩ rfl
set_option maxRecDepth 100000 in
set_option maxHeartbeats 4000000 in
theorem lread_ne_f (job : List (BitVec 8)) (g : Nat) (gm : Nat) (b : List (BitVec 8)) (A : Option Addr) (c : Nat) (x0 : BitVec 64) (x1 : BitVec 64) (x2 : BitVec 64) (l0 : BitVec 64) (l1 : BitVec 64) (l2 : BitVec 64) (l3 : BitVec 64) (l4 : BitVec 64) (l5 : BitVec 64) (l6 : BitVec 64) (l7 : BitVec 64) (w : World) (hO : HOK [.obj gm (.map #[] 0), .rd (some ⟨g, 0, none⟩) 1 33 33 (job.map b8 ++ [Value.map (some gm)]), .rd A 1 104 c (b.map b8)] w) (hj : job.length = 32) (hb : b.length = 104) (hh : wds (List.take 24 b) 3 = [x0, x1, x2]) (hg : agood (lkey job x0 x1) (nonc x2 0#64) (List.take 24 b) (List.drop 24 b)) (hp : aplain (lkey job x0 x1) (nonc x2 0#64) (List.drop 24 b) = (eights [l0, l1, l2, l3, l4, l5, l6, l7])) (hbad : ¬ LBad [l0, l1, l2, l3, l4, l5, l6, l7]) (hf : ¬ l1 = x0) : Calls Try.prog 52 [(.pointer (some ⟨g, 0, none⟩)), (.slice A 104 c)].toArray w (Ret (T := Unit) [gm] w (fun _ => True) (fun _ => (.tuple [(.agg [(.int .i64 ((0 : Nat) : Int)), (.int .i64 ((0 : Nat) : Int)), (.int .i64 ((0 : Nat) : Int)), (b64 (0#64)), (.int .i64 ((0 : Nat) : Int)), (b64 (0#64)), (b64 (0#64)), (b64 (0#64))].toArray), (b64 (0#64)), (b64 (0#64)), (.int .i64 ((4 : Nat) : Int))].toArray)) (fun _ => [])) := by
 have hlk := lkey_len job x0 x1
 have hnn := nonc_len x2 0#64
 have huu : ((lkey job x0 x1) ++ (nonc x2 0#64)).length = 44 := by rw [List.length_append, hlk, hnn]
 have hpl : (eights [l0, l1, l2, l3, l4, l5, l6, l7]).length = 64 := eights_eight _ _ _ _ _ _ _ _
 have hpw : wds (eights [l0, l1, l2, l3, l4, l5, l6, l7]) 8 = [l0, l1, l2, l3, l4, l5, l6, l7] := wds_eights _ 8 (Nat.le_refl _)
 have hlv := ltv_at hpl hpw hbad
 have hle := lte_at hpl hpw hbad
 have hF : Wid Fence.wide := wid_wide
 refine enter (c := _) Try.func52 rfl [gm] _ [.obj gm (.map #[] 0), .rd (some ⟨g, 0, none⟩) 1 33 33 (job.map b8 ++ [Value.map (some gm)]), .rd A 1 104 c (b.map b8)] (by rw [Try.ntmps52]; rfl) (own_m hO rfl) ?_
 rw [Try.ntmps52]
 refine T_re [(0, (.pointer (some ⟨g, 0, none⟩))), (1, (.slice A 104 c))] (sc rfl (sc rfl sn)) ?_
 refine T_he [0, 1, 2] [.obj gm (.map #[] 0), .rd (some ⟨g, 0, none⟩) 1 33 33 (job.map b8 ++ [Value.map (some gm)]), .rd A 1 104 c (b.map b8)] ⟨by decide, rfl⟩ ?_
 refine Tsr hF rfl ?_
 refine L_op rfl (op_alloc (z := .agg [(.int .i64 ((0 : Nat) : Int)), (.int .i64 ((0 : Nat) : Int)), (.int .i64 ((0 : Nat) : Int)), (b64 (0#64)), (.int .i64 ((0 : Nat) : Int)), (b64 (0#64)), (b64 (0#64)), (b64 (0#64))].toArray) (zs := [(.int .i64 ((0 : Nat) : Int)), (.int .i64 ((0 : Nat) : Int)), (.int .i64 ((0 : Nat) : Int)), (b64 (0#64)), (.int .i64 ((0 : Nat) : Int)), (b64 (0#64)), (b64 (0#64)), (b64 (0#64))]) kr rfl rfl rfl rfl (fun g1 => ?_))
 refine la rfl rfl rfl rfl rfl ?_
 refine la rfl rfl rfl rfl rfl ?_
 refine la rfl rfl rfl rfl rfl ?_
 refine L_nil ?_
 refine T_seq ?_
 refine T_block ?_
 refine Tsr hF rfl ?_
 refine lm rfl rfl rfl rfl rfl ?_
 refine lo rfl (pr_len_sl Try.underlying23 rfl rfl) rfl rfl ?_
 refine L_op rfl (op_cn (fun w hw => lsize_f  w (hok_nil w) ) (enters_of Try.func28 kr rfl) rfl rfl rfl rfl rfl (fun t2 q3 => ?_))
 refine lo rfl (pr_cmp (bo := .lss) (nc_lt (a := 104) (b := 104)) rfl rfl rfl rfl) rfl rfl ?_
 refine la rfl rfl rfl rfl rfl ?_
 refine L_nil ?_
 refine T_cond_f rfl ?_
 refine Tsr hF rfl ?_
 refine lm rfl rfl rfl rfl rfl ?_
 refine lo rfl (pr_len_sl Try.underlying23 rfl rfl) rfl rfl ?_
 refine L_op rfl (op_cn (fun w hw => lsize_f  w (hok_nil w) ) (enters_of Try.func28 kr rfl) rfl rfl rfl rfl rfl (fun t4 q5 => ?_))
 refine lo rfl (pr_cmp (bo := .gtr) (nc_lt (a := 104) (b := 104)) rfl rfl rfl rfl) rfl rfl ?_
 refine la rfl rfl rfl rfl rfl ?_
 refine L_nil ?_
 refine T_cond_f rfl ?_
 refine T_skip ?_
 refine Tsr hF rfl ?_
 refine lm rfl rfl rfl rfl rfl ?_
 refine L_op rfl (op_slice_rd (l := 0) (u := 24) 3 rfl sd sd Try.underlying23 kr rfl rfl rfl ⟨_, rfl⟩ rfl rfl (fun B6 => ?_))
 refine T_as 0 _ (.rd B6 1 24 c ((List.take 24 b).map b8)) rfl (by congr 1; simp [List.map_take, List.map_drop] <;> omega) ?_
 refine T_slot 26 _ (.slice B6 24 c) rfl (by congr 1) ?_
 refine L_op rfl (op_cn (fun w hw => lwords_f (List.take 24 b) 3 B6 24 c w (hok_cons ((src_rd 0 rfl) w hw) (hok_nil w)) sd sd sd) (enters_of Try.func37 kr rfl) rfl rfl rfl rfl rfl (fun t7 q8 => ?_))
 obtain ⟨B9, d10⟩ := t7
 refine T_as 0 _ (.row (.slice B9 3 d10) 30 1 3 ([x0, x1, x2].map b64)) rfl (by rw [hh]) ?_
 refine la rfl rfl rfl rfl rfl ?_
 refine L_nil ?_
 refine T_seq ?_
 refine T_regD [.row (.slice B9 3 d10) 30 1 3 ([x0, x1, x2].map b64), .rd B6 1 24 c ((List.take 24 b).map b8), .blk g1 33 [(.int .i64 ((0 : Nat) : Int)), (.int .i64 ((0 : Nat) : Int)), (.int .i64 ((0 : Nat) : Int)), (b64 (0#64)), (.int .i64 ((0 : Nat) : Int)), (b64 (0#64)), (b64 (0#64)), (b64 (0#64))], .obj gm (.map #[] 0), .rd (some ⟨g, 0, none⟩) 1 33 33 (job.map b8 ++ [Value.map (some gm)]), .rd A 1 104 c (b.map b8)] 11 14 #[false, false, false, false, false, false, false, false, false, false, false, false, false, false] hF kr kr ?_
 refine D_pure (i := 0) [0, 1, 2, 3, 4, 5] rfl kr rfl (pr_move rfl rfl) (.inr rfl) rfl rfl ?_
 refine D_pure (i := 1) [0, 1, 2, 3, 4, 5] rfl kr rfl (pr_move rfl rfl) (.inr rfl) rfl rfl ?_
 refine D_pure (i := 2) [0, 1, 2, 3, 4, 5] rfl kr rfl (pr_ixs1 (j := 0) (src_none (src_row 0 rfl)) sd Try.underlying69 kr rfl rfl rfl) (.inr rfl) rfl rfl ?_
 refine D_pure (i := 5) [0, 1, 2, 3, 4, 5] rfl kr rfl (pr_move rfl rfl) (.inr rfl) rfl rfl ?_
 refine D_pure (i := 6) [0, 1, 2, 3, 4, 5] rfl kr rfl (pr_ixs1 (j := 1) (src_none (src_row 0 rfl)) sd Try.underlying69 kr rfl rfl rfl) (.inr rfl) rfl rfl ?_
 refine D_pure (i := 8) [0, 1, 2, 3, 4, 5] rfl kr rfl (pr_move rfl rfl) (.inr rfl) rfl rfl ?_
 refine D_pure (i := 9) [0, 1, 2, 3, 4, 5] rfl kr rfl (pr_ixs1 (j := 2) (src_none (src_row 0 rfl)) sd Try.underlying69 kr rfl rfl rfl) (.inr rfl) rfl rfl ?_
 refine D_take (i := 3) [0, 1, 2, 3, 4, 5] rfl kr rfl (ld_src (m := 0) (src_row 0 rfl) (get64 sd) Try.underlying30 rfl rfl rfl) rfl rfl rfl ?_
 refine T_slot 31 (b64 (ath [x0, x1, x2] 0)) (b64 x0) rfl (rfl) ?_
 refine D_pure (i := 4) [0, 1, 2, 3, 4, 5] rfl kr rfl (pr_cv (zc_u64i x0) Try.underlying30 Try.underlying3 rfl rfl) (.inr rfl) rfl rfl ?_
 refine D_take (i := 7) [0, 1, 2, 3, 4, 5] rfl kr rfl (ld_src (m := 1) (src_row 0 rfl) (get64 sd) Try.underlying30 rfl rfl rfl) rfl rfl rfl ?_
 refine T_slot 35 (b64 (ath [x0, x1, x2] 1)) (b64 x1) rfl (rfl) ?_
 refine D_take (i := 10) [0, 1, 2, 3, 4, 5] rfl kr rfl (ld_src (m := 2) (src_row 0 rfl) (get64 sd) Try.underlying30 rfl rfl rfl) rfl rfl rfl ?_
 refine T_slot 38 (b64 (ath [x0, x1, x2] 2)) (b64 x2) rfl (rfl) ?_
 refine D_join (T := Nat) (fun _ => True) (fun g13 => [(1, (.slice A 104 c)), (4, (.pointer (some ⟨g1, 0, none⟩))), (8, (.slice B9 3 d10)), (9, (.pointer (some ⟨g13, 0, none⟩)))]) (fun g13 => [.blk g13 88 (((lkey job x0 x1) ++ (nonc x2 0#64)).map b8), .row (.slice B9 3 d10) 30 1 3 ([x0, x1, x2].map b64), .rd B6 1 24 c ((List.take 24 b).map b8), .blk g1 33 [(.int .i64 ((0 : Nat) : Int)), (.int .i64 ((0 : Nat) : Int)), (.int .i64 ((0 : Nat) : Int)), (b64 (0#64)), (.int .i64 ((0 : Nat) : Int)), (b64 (0#64)), (b64 (0#64)), (b64 (0#64))], .rd (some ⟨g, 0, none⟩) 1 33 33 (job.map b8 ++ [Value.map (some gm)]), .rd A 1 104 c (b.map b8)]) ?_ ?_
 ·
  refine D_all [11, 12] kr (by simp) ⟨⟨_, rfl, rfl, ?_⟩, ⟨_, rfl, rfl, ?_⟩, trivial⟩
  ·
   refine id (op_c1 3 rfl (fun w hw => luse_f job g gm x0 x1 x2 w (hok_cons (hw _ (List.mem_of_getElem? (i := 3) rfl)) (hok_cons ((src_rd 4 rfl) w hw) (hok_nil w))) (by first | assumption | exact sd)) (enters_of Try.func66 kr rfl) rfl rfl rfl rfl rfl (fun t14 q15 => ?_))
   refine D_past kr ?_
   refine D_one 12 _ rfl kr rfl (op_alloc (z := .agg [(b8 (0#8)), (b8 (0#8)), (b8 (0#8)), (b8 (0#8)), (b8 (0#8)), (b8 (0#8)), (b8 (0#8)), (b8 (0#8)), (b8 (0#8)), (b8 (0#8)), (b8 (0#8)), (b8 (0#8)), (b8 (0#8)), (b8 (0#8)), (b8 (0#8)), (b8 (0#8)), (b8 (0#8)), (b8 (0#8)), (b8 (0#8)), (b8 (0#8)), (b8 (0#8)), (b8 (0#8)), (b8 (0#8)), (b8 (0#8)), (b8 (0#8)), (b8 (0#8)), (b8 (0#8)), (b8 (0#8)), (b8 (0#8)), (b8 (0#8)), (b8 (0#8)), (b8 (0#8)), (b8 (0#8)), (b8 (0#8)), (b8 (0#8)), (b8 (0#8)), (b8 (0#8)), (b8 (0#8)), (b8 (0#8)), (b8 (0#8)), (b8 (0#8)), (b8 (0#8)), (b8 (0#8)), (b8 (0#8))].toArray) (zs := [(b8 (0#8)), (b8 (0#8)), (b8 (0#8)), (b8 (0#8)), (b8 (0#8)), (b8 (0#8)), (b8 (0#8)), (b8 (0#8)), (b8 (0#8)), (b8 (0#8)), (b8 (0#8)), (b8 (0#8)), (b8 (0#8)), (b8 (0#8)), (b8 (0#8)), (b8 (0#8)), (b8 (0#8)), (b8 (0#8)), (b8 (0#8)), (b8 (0#8)), (b8 (0#8)), (b8 (0#8)), (b8 (0#8)), (b8 (0#8)), (b8 (0#8)), (b8 (0#8)), (b8 (0#8)), (b8 (0#8)), (b8 (0#8)), (b8 (0#8)), (b8 (0#8)), (b8 (0#8)), (b8 (0#8)), (b8 (0#8)), (b8 (0#8)), (b8 (0#8)), (b8 (0#8)), (b8 (0#8)), (b8 (0#8)), (b8 (0#8)), (b8 (0#8)), (b8 (0#8)), (b8 (0#8)), (b8 (0#8))]) kr rfl rfl rfl rfl (fun g16 => ?_))
   refine D_past kr ?_
   refine D_one 13 _ rfl kr rfl (op_sto (n := 44) (vs := (((lkey job x0 x1) ++ (nonc x2 0#64)).map b8)) 0 rfl rfl kr (all8_one _) kr sd rfl rfl rfl rfl ?_)
   refine D_past kr ?_
   refine D_done kr ?_
   exact T_meet g16 trivial (sc rfl (sc rfl (sc rfl (sc rfl sn)))) [0, 1, 2, 3, 4, 5] ⟨by decide, rfl⟩
  ·
   refine id (op_alloc (z := .agg [(b8 (0#8)), (b8 (0#8)), (b8 (0#8)), (b8 (0#8)), (b8 (0#8)), (b8 (0#8)), (b8 (0#8)), (b8 (0#8)), (b8 (0#8)), (b8 (0#8)), (b8 (0#8)), (b8 (0#8)), (b8 (0#8)), (b8 (0#8)), (b8 (0#8)), (b8 (0#8)), (b8 (0#8)), (b8 (0#8)), (b8 (0#8)), (b8 (0#8)), (b8 (0#8)), (b8 (0#8)), (b8 (0#8)), (b8 (0#8)), (b8 (0#8)), (b8 (0#8)), (b8 (0#8)), (b8 (0#8)), (b8 (0#8)), (b8 (0#8)), (b8 (0#8)), (b8 (0#8)), (b8 (0#8)), (b8 (0#8)), (b8 (0#8)), (b8 (0#8)), (b8 (0#8)), (b8 (0#8)), (b8 (0#8)), (b8 (0#8)), (b8 (0#8)), (b8 (0#8)), (b8 (0#8)), (b8 (0#8))].toArray) (zs := [(b8 (0#8)), (b8 (0#8)), (b8 (0#8)), (b8 (0#8)), (b8 (0#8)), (b8 (0#8)), (b8 (0#8)), (b8 (0#8)), (b8 (0#8)), (b8 (0#8)), (b8 (0#8)), (b8 (0#8)), (b8 (0#8)), (b8 (0#8)), (b8 (0#8)), (b8 (0#8)), (b8 (0#8)), (b8 (0#8)), (b8 (0#8)), (b8 (0#8)), (b8 (0#8)), (b8 (0#8)), (b8 (0#8)), (b8 (0#8)), (b8 (0#8)), (b8 (0#8)), (b8 (0#8)), (b8 (0#8)), (b8 (0#8)), (b8 (0#8)), (b8 (0#8)), (b8 (0#8)), (b8 (0#8)), (b8 (0#8)), (b8 (0#8)), (b8 (0#8)), (b8 (0#8)), (b8 (0#8)), (b8 (0#8)), (b8 (0#8)), (b8 (0#8)), (b8 (0#8)), (b8 (0#8)), (b8 (0#8))]) kr rfl rfl rfl rfl (fun g17 => ?_))
   refine D_on [1, 2, 3, 4, 5, 6] rfl ?_
   refine D_one 11 _ rfl kr rfl (op_c1 4 rfl (fun w hw => luse_f job g gm x0 x1 x2 w (hok_cons (hw _ (List.mem_of_getElem? (i := 4) rfl)) (hok_cons ((src_rd 5 rfl) w hw) (hok_nil w))) (by first | assumption | exact sd)) (enters_of Try.func66 kr rfl) rfl rfl rfl rfl rfl (fun t18 q19 => ?_))
   refine D_past kr ?_
   refine D_one 13 _ rfl kr rfl (op_sto (n := 44) (vs := (((lkey job x0 x1) ++ (nonc x2 0#64)).map b8)) 0 rfl rfl kr (all8_one _) kr sd rfl rfl rfl rfl ?_)
   refine D_past kr ?_
   refine D_done kr ?_
   exact T_meet g17 trivial (sc rfl (sc rfl (sc rfl (sc rfl sn)))) [0, 1, 2, 3, 4, 5] ⟨by decide, rfl⟩
 ·
  rintro g13 -
  refine T_re [(1, (.slice A 104 c)), (4, (.pointer (some ⟨g1, 0, none⟩))), (8, (.slice B9 3 d10)), (9, (.pointer (some ⟨g13, 0, none⟩)))] (sc rfl (sc rfl (sc rfl (sc rfl sn)))) ?_
  refine T_he [0, 1, 2, 3, 4, 5] [.blk g13 88 (((lkey job x0 x1) ++ (nonc x2 0#64)).map b8), .row (.slice B9 3 d10) 30 1 3 ([x0, x1, x2].map b64), .rd B6 1 24 c ((List.take 24 b).map b8), .blk g1 33 [(.int .i64 ((0 : Nat) : Int)), (.int .i64 ((0 : Nat) : Int)), (.int .i64 ((0 : Nat) : Int)), (b64 (0#64)), (.int .i64 ((0 : Nat) : Int)), (b64 (0#64)), (b64 (0#64)), (b64 (0#64))], .rd (some ⟨g, 0, none⟩) 1 33 33 (job.map b8 ++ [Value.map (some gm)]), .rd A 1 104 c (b.map b8)] ⟨by decide, rfl⟩ ?_
  refine T_seq ?_
  refine T_regD [.blk g13 88 (((lkey job x0 x1) ++ (nonc x2 0#64)).map b8), .row (.slice B9 3 d10) 30 1 3 ([x0, x1, x2].map b64), .rd B6 1 24 c ((List.take 24 b).map b8), .blk g1 33 [(.int .i64 ((0 : Nat) : Int)), (.int .i64 ((0 : Nat) : Int)), (.int .i64 ((0 : Nat) : Int)), (b64 (0#64)), (.int .i64 ((0 : Nat) : Int)), (b64 (0#64)), (b64 (0#64)), (b64 (0#64))], .rd (some ⟨g, 0, none⟩) 1 33 33 (job.map b8 ++ [Value.map (some gm)]), .rd A 1 104 c (b.map b8)] 14 14 #[false, false, false, false, false, false, false, false, false, false, false, false, false, false] hF kr kr ?_
  refine D_pure (i := 0) [0, 1, 2, 3, 4, 5] rfl kr rfl (pr_fa (m := 0) (m' := 0) (z := 31) (by rfl) Try.underlying88 rfl kr rfl rfl) (.inr rfl) rfl rfl ?_
  refine D_pure (i := 2) [0, 1, 2, 3, 4, 5] rfl kr rfl (pr_fa (m := 0) (m' := 32) (z := 11) (by rfl) Try.underlying88 rfl kr rfl rfl) (.inr rfl) rfl rfl ?_
  refine D_pure (i := 4) [0, 1, 2, 3, 4, 5] rfl kr rfl (pr_move rfl rfl) (.inr rfl) rfl rfl ?_
  refine D_pure (i := 6) [0, 1, 2, 3, 4, 5] rfl kr rfl (pr_move rfl rfl) (.inr rfl) rfl rfl ?_
  refine D_take (i := 1) [0, 1, 2, 3, 4, 5] rfl kr rfl (ld_agg (ds := ((List.take 32 ((lkey job x0 x1) ++ (nonc x2 0#64))).map b8)) 0 rfl (by simp [List.map_take, List.map_drop]) Try.underlying50 rfl (fwz (n := 32) kr sd) rfl rfl) rfl rfl rfl ?_
  refine T_slot 42 _ (.agg ((lkey job x0 x1).map b8).toArray) rfl (by rw [ktake hlk]) ?_
  refine D_take (i := 3) [0, 1, 2, 3, 4, 5] rfl kr rfl (ld_agg (ds := ((List.take 12 (List.drop 32 ((lkey job x0 x1) ++ (nonc x2 0#64)))).map b8)) 0 rfl (by simp [List.map_take, List.map_drop]) Try.underlying86 rfl (fwz (n := 12) kr sd) rfl rfl) rfl rfl rfl ?_
  refine T_slot 44 _ (.agg ((nonc x2 0#64).map b8).toArray) rfl (by rw [kdrop hlk hnn]) ?_
  refine D_join (T := Option Addr × Nat) (fun _ => True) (fun ⟨B24, d25⟩ => [(4, (.pointer (some ⟨g1, 0, none⟩))), (8, (.slice B9 3 d10)), (10, (.slice B24 64 d25)), (11, (.int .i64 ((0 : Nat) : Int)))]) (fun ⟨B24, d25⟩ => [.row (.slice B24 64 d25) 5 1 64 ((eights [l0, l1, l2, l3, l4, l5, l6, l7]).map b8), .blk g13 88 (((lkey job x0 x1) ++ (nonc x2 0#64)).map b8), .row (.slice B9 3 d10) 30 1 3 ([x0, x1, x2].map b64), .rd B6 1 24 c ((List.take 24 b).map b8), .blk g1 33 [(.int .i64 ((0 : Nat) : Int)), (.int .i64 ((0 : Nat) : Int)), (.int .i64 ((0 : Nat) : Int)), (b64 (0#64)), (.int .i64 ((0 : Nat) : Int)), (b64 (0#64)), (b64 (0#64)), (b64 (0#64))], .rd (some ⟨g, 0, none⟩) 1 33 33 (job.map b8 ++ [Value.map (some gm)]), .rd A 1 104 c (b.map b8)]) ?_ ?_
  ·
   refine D_all [5, 7] kr (by simp) ⟨⟨_, rfl, rfl, ?_⟩, ⟨_, rfl, rfl, ?_⟩, trivial⟩
   ·
    refine id (op_slice_rd (l := 0) (u := 24) 5 rfl sd sd Try.underlying23 kr rfl rfl rfl ⟨_, rfl⟩ rfl rfl (fun B26 => ?_))
    refine T_as 0 _ (.rd B26 1 24 c ((List.take 24 b).map b8)) rfl (by congr 1; simp [List.map_take, List.map_drop] <;> omega) ?_
    refine T_slot 46 _ (.slice B26 24 c) rfl (by congr 1) ?_
    refine D_on [1, 2, 3, 4, 5, 6] rfl ?_
    refine D_one 7 _ rfl kr rfl (op_slice_rd (l := 24) (u := 104) 6 rfl sd sd Try.underlying23 kr rfl rfl ⟨_, rfl⟩ rfl rfl rfl (fun B27 => ?_))
    refine T_as 0 _ (.rd B27 1 (104 - 24) (c - 24) ((List.drop 24 b).map b8)) rfl (by congr 1; first | rfl | (rw [List.take_of_length_le (by simp; omega)]; simp)) ?_
    refine T_slot 48 (.slice B27 (104 - 24) (c - 24)) (.slice B27 80 (c - 24)) rfl (by congr 1) ?_
    refine T_as 0 _ (.rd B27 1 80 (c - 24) ((List.drop 24 b).map b8)) rfl (rfl) ?_
    refine D_on [2, 3, 4, 5, 6, 7] rfl ?_
    refine D_one 8 _ rfl kr rfl (op_cn (fun w hw => open_ok_f (lkey job x0 x1) (nonc x2 0#64) (List.take 24 b) (List.drop 24 b) B26 24 c B27 80 (c - 24) w (hok_cons ((src_rd 1 rfl) w hw) (hok_cons ((src_rd 0 rfl) w hw) (hok_nil w))) (by first | assumption | exact sd) (by first | assumption | exact sd) (by first | assumption | exact sd) (by first | assumption | exact sd) sd sd sd hg) (enters_of Try.func56 kr rfl) rfl rfl rfl rfl rfl (fun t28 q29 => ?_))
    obtain ⟨B30, d31⟩ := t28
    refine D_on [3, 4, 5, 6, 7, 8] rfl ?_
    refine D_pure (i := 9) [3, 4, 5, 6, 7, 8] rfl kr rfl (pr_move rfl rfl) (.inr rfl) rfl rfl ?_
    refine D_pure (i := 10) [3, 4, 5, 6, 7, 8] rfl kr rfl (pr_ext (vs := [(.slice B30 (80 - 16) d31), (.int .i64 ((0 : Nat) : Int))]) rfl rfl rfl) (.inr rfl) rfl rfl ?_
    refine T_slot 50 (.slice B30 (80 - 16) d31) (.slice B30 64 d31) rfl (by congr 1) ?_
    refine T_as 0 _ (.row (.slice B30 64 d31) 5 1 64 ((eights [l0, l1, l2, l3, l4, l5, l6, l7]).map b8)) rfl (by rw [hp]) ?_
    refine D_pure (i := 11) [3, 4, 5, 6, 7, 8] rfl kr rfl (pr_ext (vs := [(.slice B30 (80 - 16) d31), (.int .i64 ((0 : Nat) : Int))]) rfl rfl rfl) (.inr rfl) rfl rfl ?_
    refine D_pure (i := 12) [3, 4, 5, 6, 7, 8] rfl kr rfl (pr_assign rfl rfl) (.inr rfl) rfl rfl ?_
    refine D_pure (i := 13) [3, 4, 5, 6, 7, 8] rfl kr rfl (pr_assign rfl rfl) (.inr rfl) rfl rfl ?_
    refine D_done kr ?_
    exact T_meet (B30, d31) trivial (sc rfl (sc rfl (sc rfl (sc rfl sn)))) [0, 3, 4, 5, 6, 7, 8] ⟨by decide, rfl⟩
   ·
    refine id (op_slice_rd (l := 24) (u := 104) 5 rfl sd sd Try.underlying23 kr rfl rfl ⟨_, rfl⟩ rfl rfl rfl (fun B32 => ?_))
    refine T_as 0 _ (.rd B32 1 (104 - 24) (c - 24) ((List.drop 24 b).map b8)) rfl (by congr 1; first | rfl | (rw [List.take_of_length_le (by simp; omega)]; simp)) ?_
    refine T_slot 48 (.slice B32 (104 - 24) (c - 24)) (.slice B32 80 (c - 24)) rfl (by congr 1) ?_
    refine T_as 0 _ (.rd B32 1 80 (c - 24) ((List.drop 24 b).map b8)) rfl (rfl) ?_
    refine D_on [1, 2, 3, 4, 5, 6] rfl ?_
    refine D_one 5 _ rfl kr rfl (op_slice_rd (l := 0) (u := 24) 6 rfl sd sd Try.underlying23 kr rfl rfl rfl ⟨_, rfl⟩ rfl rfl (fun B33 => ?_))
    refine T_as 0 _ (.rd B33 1 24 c ((List.take 24 b).map b8)) rfl (by congr 1; simp [List.map_take, List.map_drop] <;> omega) ?_
    refine T_slot 46 _ (.slice B33 24 c) rfl (by congr 1) ?_
    refine D_on [2, 3, 4, 5, 6, 7] rfl ?_
    refine D_one 8 _ rfl kr rfl (op_cn (fun w hw => open_ok_f (lkey job x0 x1) (nonc x2 0#64) (List.take 24 b) (List.drop 24 b) B33 24 c B32 80 (c - 24) w (hok_cons ((src_rd 0 rfl) w hw) (hok_cons ((src_rd 1 rfl) w hw) (hok_nil w))) (by first | assumption | exact sd) (by first | assumption | exact sd) (by first | assumption | exact sd) (by first | assumption | exact sd) sd sd sd hg) (enters_of Try.func56 kr rfl) rfl rfl rfl rfl rfl (fun t34 q35 => ?_))
    obtain ⟨B36, d37⟩ := t34
    refine D_on [3, 4, 5, 6, 7, 8] rfl ?_
    refine D_pure (i := 9) [3, 4, 5, 6, 7, 8] rfl kr rfl (pr_move rfl rfl) (.inr rfl) rfl rfl ?_
    refine D_pure (i := 10) [3, 4, 5, 6, 7, 8] rfl kr rfl (pr_ext (vs := [(.slice B36 (80 - 16) d37), (.int .i64 ((0 : Nat) : Int))]) rfl rfl rfl) (.inr rfl) rfl rfl ?_
    refine T_slot 50 (.slice B36 (80 - 16) d37) (.slice B36 64 d37) rfl (by congr 1) ?_
    refine T_as 0 _ (.row (.slice B36 64 d37) 5 1 64 ((eights [l0, l1, l2, l3, l4, l5, l6, l7]).map b8)) rfl (by rw [hp]) ?_
    refine D_pure (i := 11) [3, 4, 5, 6, 7, 8] rfl kr rfl (pr_ext (vs := [(.slice B36 (80 - 16) d37), (.int .i64 ((0 : Nat) : Int))]) rfl rfl rfl) (.inr rfl) rfl rfl ?_
    refine D_pure (i := 12) [3, 4, 5, 6, 7, 8] rfl kr rfl (pr_assign rfl rfl) (.inr rfl) rfl rfl ?_
    refine D_pure (i := 13) [3, 4, 5, 6, 7, 8] rfl kr rfl (pr_assign rfl rfl) (.inr rfl) rfl rfl ?_
    refine D_done kr ?_
    exact T_meet (B36, d37) trivial (sc rfl (sc rfl (sc rfl (sc rfl sn)))) [0, 3, 4, 5, 6, 7, 8] ⟨by decide, rfl⟩
  ·
   rintro ⟨B24, d25⟩ -
   refine T_re [(4, (.pointer (some ⟨g1, 0, none⟩))), (8, (.slice B9 3 d10)), (10, (.slice B24 64 d25)), (11, (.int .i64 ((0 : Nat) : Int)))] (sc rfl (sc rfl (sc rfl (sc rfl sn)))) ?_
   refine T_he [0, 1, 2, 3, 4, 5, 6] [.row (.slice B24 64 d25) 5 1 64 ((eights [l0, l1, l2, l3, l4, l5, l6, l7]).map b8), .blk g13 88 (((lkey job x0 x1) ++ (nonc x2 0#64)).map b8), .row (.slice B9 3 d10) 30 1 3 ([x0, x1, x2].map b64), .rd B6 1 24 c ((List.take 24 b).map b8), .blk g1 33 [(.int .i64 ((0 : Nat) : Int)), (.int .i64 ((0 : Nat) : Int)), (.int .i64 ((0 : Nat) : Int)), (b64 (0#64)), (.int .i64 ((0 : Nat) : Int)), (b64 (0#64)), (b64 (0#64)), (b64 (0#64))], .rd (some ⟨g, 0, none⟩) 1 33 33 (job.map b8 ++ [Value.map (some gm)]), .rd A 1 104 c (b.map b8)] ⟨by decide, rfl⟩ ?_
   refine T_seq ?_
   refine Tsr hF rfl ?_
   refine lm rfl rfl rfl rfl rfl ?_
   refine lo rfl (pr_cmp (bo := .neq) (nc_ne (a := 0) (b := 0)) rfl rfl rfl rfl) rfl rfl ?_
   refine L_nil ?_
   refine T_cond_f rfl ?_
   refine T_skip ?_
   refine Tsr hF rfl ?_
   refine lm rfl rfl rfl rfl rfl ?_
   refine L_op rfl (op_cn (fun w hw => ltake_f (eights [l0, l1, l2, l3, l4, l5, l6, l7]) B24 64 d25 w (hok_cons ((src_row 0 rfl) w hw) (hok_nil w)) sd sd) (enters_of Try.func13 kr rfl) rfl rfl rfl rfl rfl (fun t38 q39 => ?_))
   refine lm rfl rfl rfl rfl rfl ?_
   refine lo rfl (pr_ext (vs := [(.agg (ltv (eights [l0, l1, l2, l3, l4, l5, l6, l7])).toArray), (.int .i64 (((lte (eights [l0, l1, l2, l3, l4, l5, l6, l7])) : Nat) : Int))]) rfl rfl rfl) rfl rfl ?_
   refine T_slot 59 _ (.agg [(.int .i64 ((l0.toNat : Nat) : Int)), (.int .i64 ((l1.toNat : Nat) : Int)), (.int .i64 ((l2.toNat : Nat) : Int)), (b64 l3), (.int .i64 ((l4.toNat : Nat) : Int)), (b64 l5), (b64 l6), (b64 l7)].toArray) rfl (by rw [hlv]; rfl) ?_
   refine lo rfl (pr_ext (vs := [(.agg (ltv (eights [l0, l1, l2, l3, l4, l5, l6, l7])).toArray), (.int .i64 (((lte (eights [l0, l1, l2, l3, l4, l5, l6, l7])) : Nat) : Int))]) rfl rfl rfl) rfl rfl ?_
   refine T_slot 60 _ (.int .i64 ((0 : Nat) : Int)) rfl (by rw [hle]) ?_
   refine L_op rfl (op_alloc (z := .agg [(.int .i64 ((0 : Nat) : Int)), (.int .i64 ((0 : Nat) : Int)), (.int .i64 ((0 : Nat) : Int)), (b64 (0#64)), (.int .i64 ((0 : Nat) : Int)), (b64 (0#64)), (b64 (0#64)), (b64 (0#64))].toArray) (zs := [(.int .i64 ((0 : Nat) : Int)), (.int .i64 ((0 : Nat) : Int)), (.int .i64 ((0 : Nat) : Int)), (b64 (0#64)), (.int .i64 ((0 : Nat) : Int)), (b64 (0#64)), (b64 (0#64)), (b64 (0#64))]) kr rfl rfl rfl rfl (fun g40 => ?_))
   refine L_op rfl (op_sto (n := 8) (vs := [(.int .i64 ((l0.toNat : Nat) : Int)), (.int .i64 ((l1.toNat : Nat) : Int)), (.int .i64 ((l2.toNat : Nat) : Int)), (b64 l3), (.int .i64 ((l4.toNat : Nat) : Int)), (b64 l5), (b64 l6), (b64 l7)]) 0 rfl rfl kr (by simp [Value.oneCell']) kr kr rfl rfl rfl rfl ?_)
   refine la rfl rfl rfl rfl rfl ?_
   refine L_nil ?_
   refine T_seq ?_
   refine T_seq ?_
   refine T_regD [.blk g40 33 [(.int .i64 ((l0.toNat : Nat) : Int)), (.int .i64 ((l1.toNat : Nat) : Int)), (.int .i64 ((l2.toNat : Nat) : Int)), (b64 l3), (.int .i64 ((l4.toNat : Nat) : Int)), (b64 l5), (b64 l6), (b64 l7)], .row (.slice B24 64 d25) 5 1 64 ((eights [l0, l1, l2, l3, l4, l5, l6, l7]).map b8), .blk g13 88 (((lkey job x0 x1) ++ (nonc x2 0#64)).map b8), .row (.slice B9 3 d10) 30 1 3 ([x0, x1, x2].map b64), .rd B6 1 24 c ((List.take 24 b).map b8), .blk g1 33 [(.int .i64 ((0 : Nat) : Int)), (.int .i64 ((0 : Nat) : Int)), (.int .i64 ((0 : Nat) : Int)), (b64 (0#64)), (.int .i64 ((0 : Nat) : Int)), (b64 (0#64)), (b64 (0#64)), (b64 (0#64))], .rd (some ⟨g, 0, none⟩) 1 33 33 (job.map b8 ++ [Value.map (some gm)]), .rd A 1 104 c (b.map b8)] 11 11 #[false, false, false, false, false, false, false, false, false, false, false] hF kr kr ?_
   refine D_pure (i := 0) [0, 1, 2, 3, 4, 5, 6, 7] rfl kr rfl (pr_move rfl rfl) (.inr rfl) rfl rfl ?_
   refine D_pure (i := 1) [0, 1, 2, 3, 4, 5, 6, 7] rfl kr rfl (pr_cmp (bo := .eql) (nc_eq (a := 0) (b := 0)) rfl rfl rfl rfl) (.inr rfl) rfl rfl ?_
   refine D_pure (i := 2) [0, 1, 2, 3, 4, 5, 6, 7] rfl kr rfl (pr_move rfl rfl) (.inr rfl) rfl rfl ?_
   refine D_pure (i := 3) [0, 1, 2, 3, 4, 5, 6, 7] rfl kr rfl (pr_fa (m := 0) (m' := 1) (z := 0) (by rfl) Try.underlying33 rfl kr rfl rfl) (.inr rfl) rfl rfl ?_
   refine D_pure (i := 6) [0, 1, 2, 3, 4, 5, 6, 7] rfl kr rfl (pr_move rfl rfl) (.inr rfl) rfl rfl ?_
   refine D_pure (i := 7) [0, 1, 2, 3, 4, 5, 6, 7] rfl kr rfl (pr_ixs1 (j := 0) (src_none (src_row 3 rfl)) sd Try.underlying69 kr rfl rfl rfl) (.inr rfl) rfl rfl ?_
   refine D_take (i := 4) [0, 1, 2, 3, 4, 5, 6, 7] rfl kr rfl (ld_blk 0 rfl rfl Try.underlying3 rfl rfl rfl) rfl rfl rfl ?_
   refine D_pure (i := 5) [0, 1, 2, 3, 4, 5, 6, 7] rfl kr rfl (pr_cv (ni_u64 (a := l1.toNat) sd) Try.underlying3 Try.underlying30 rfl rfl) (.inr rfl) rfl rfl ?_
   refine D_take (i := 8) [0, 1, 2, 3, 4, 5, 6, 7] rfl kr rfl (ld_src (m := 0) (src_row 3 rfl) (get64 sd) Try.underlying30 rfl rfl rfl) rfl rfl rfl ?_
   refine T_slot 69 (b64 (ath [x0, x1, x2] 0)) (b64 x0) rfl (rfl) ?_
   refine D_pure (i := 9) [0, 1, 2, 3, 4, 5, 6, 7] rfl kr rfl (pr_cmp (bo := .neq) (nc_ne (a := l1.toNat) (b := x0.toNat)) rfl rfl rfl rfl) (.inr rfl) rfl rfl ?_
   refine D_pure (i := 10) [0, 1, 2, 3, 4, 5, 6, 7] rfl kr rfl (pr_pick_t rfl rfl rfl) (.inr rfl) rfl rfl ?_
   refine D_done kr ?_
   refine T_cond_yes (t := (l1.toNat != x0.toNat)) rfl (by simp; exact fun e => hf (BitVec.eq_of_toNat_eq e)) ?_
   refine T_reg hF rfl ?_
   refine la rfl rfl rfl rfl rfl ?_
   refine L_nil ?_
   refine T_seq ?_
   refine Tsr hF rfl ?_
   refine lm rfl rfl rfl rfl rfl ?_
   refine lo rfl (pr_cmp (bo := .neq) (nc_ne (a := 4) (b := 0)) rfl rfl rfl rfl) rfl rfl ?_
   refine L_nil ?_
   refine T_cond_t rfl ?_
   refine Tsr hF rfl ?_
   refine lo rfl (pr_build (qs := []) (v := .agg [(.int .i64 ((0 : Nat) : Int)), (.int .i64 ((0 : Nat) : Int)), (.int .i64 ((0 : Nat) : Int)), (b64 (0#64)), (.int .i64 ((0 : Nat) : Int)), (b64 (0#64)), (b64 (0#64)), (b64 (0#64))].toArray) (fun _ => by kernel_rfl) rfl rfl) rfl rfl ?_
   refine lm rfl rfl rfl rfl rfl ?_
   refine L_op rfl (op_sto (n := 8) (vs := [(.int .i64 ((0 : Nat) : Int)), (.int .i64 ((0 : Nat) : Int)), (.int .i64 ((0 : Nat) : Int)), (b64 (0#64)), (.int .i64 ((0 : Nat) : Int)), (b64 (0#64)), (b64 (0#64)), (b64 (0#64))]) 5 rfl rfl kr (by simp [Value.oneCell']) kr kr rfl rfl rfl rfl ?_)
   refine la rfl rfl rfl rfl rfl ?_
   refine la rfl rfl rfl rfl rfl ?_
   refine la rfl rfl rfl rfl rfl ?_
   refine L_nil ?_
   refine T_ret ?_
   exact T_fin () (by first | trivial | omega | (simp; done)) (rescttt 0 rfl rfl rfl Try.underlying33 rfl kr rfl rfl rfl) [] ⟨by decide, rfl⟩ rfl
theorem lsealed_good (job : List (BitVec 8)) (x0 x1 x2 l0 l1 l2 l3 l4 l5 l6 l7 : BitVec 64) : (lsealed job x0 x1 x2 (eights [l0, l1, l2, l3, l4, l5, l6, l7])).length = 104 ∧ wds (List.take 24 (lsealed job x0 x1 x2 (eights [l0, l1, l2, l3, l4, l5, l6, l7]))) 3 = [x0, x1, x2] ∧ agood (lkey job x0 x1) (nonc x2 0#64) (List.take 24 (lsealed job x0 x1 x2 (eights [l0, l1, l2, l3, l4, l5, l6, l7]))) (List.drop 24 (lsealed job x0 x1 x2 (eights [l0, l1, l2, l3, l4, l5, l6, l7]))) ∧ aplain (lkey job x0 x1) (nonc x2 0#64) (List.drop 24 (lsealed job x0 x1 x2 (eights [l0, l1, l2, l3, l4, l5, l6, l7]))) = (eights [l0, l1, l2, l3, l4, l5, l6, l7]) := by
  refine ⟨lsealed_len _ _ _ _ _ (eights_eight _ _ _ _ _ _ _ _), ?_, ?_, ?_⟩
  · rw [lsealed_take]; exact wds_eights _ 3 (Nat.le_refl _)
  · rw [lsealed_take, lsealed_drop]; exact agood_seal _ _ _ _
  · rw [lsealed_drop]; exact aplain_seal _ _ _ _

set_option maxRecDepth 100000 in
set_option maxHeartbeats 4000000 in
theorem lopen_eq_f (job : List (BitVec 8)) (A : Option Addr) (c : Nat) (x0 : BitVec 64) (x1 : BitVec 64) (x2 : BitVec 64) (l0 : BitVec 64) (l1 : BitVec 64) (l2 : BitVec 64) (l3 : BitVec 64) (l4 : BitVec 64) (l5 : BitVec 64) (l6 : BitVec 64) (l7 : BitVec 64) (w : World) (hO : HOK [.rd A 1 104 c ((lsealed job x0 x1 x2 (eights [l0, l1, l2, l3, l4, l5, l6, l7])).map b8)] w) (hj : job.length = 32) (hbad : ¬ LBad [l0, l1, l2, l3, l4, l5, l6, l7]) (hf : l1 = x0) : Calls Try.prog 30 [(.agg (job.map b8).toArray), (.slice A 104 c)].toArray w (Ret (T := Unit) [] w (fun _ => True) (fun _ => (.tuple [(.agg [(.int .i64 ((l0.toNat : Nat) : Int)), (.int .i64 ((l1.toNat : Nat) : Int)), (.int .i64 ((l2.toNat : Nat) : Int)), (b64 l3), (.int .i64 ((l4.toNat : Nat) : Int)), (b64 l5), (b64 l6), (b64 l7)].toArray), (b64 x2), (.int .i64 ((0 : Nat) : Int))].toArray)) (fun _ => [])) := by
 obtain ⟨hb, hh, hg, hp⟩ := lsealed_good job x0 x1 x2 l0 l1 l2 l3 l4 l5 l6 l7
 have hF : Wid Fence.wide := wid_wide
 refine enter (c := _) Try.func30 rfl [] _ [.rd A 1 104 c ((lsealed job x0 x1 x2 (eights [l0, l1, l2, l3, l4, l5, l6, l7])).map b8)] (by rw [Try.ntmps30]; rfl) (own_rds hO rfl) ?_
 rw [Try.ntmps30]
 refine T_re [(0, (.agg (job.map b8).toArray)), (1, (.slice A 104 c))] (sc rfl (sc rfl sn)) ?_
 refine T_he [0] [.rd A 1 104 c ((lsealed job x0 x1 x2 (eights [l0, l1, l2, l3, l4, l5, l6, l7])).map b8)] ⟨by decide, rfl⟩ ?_
 refine Tsr hF rfl ?_
 refine L_op rfl (op_box (zs := (job.map b8)) rfl rfl rfl rfl rfl (fun g1 => ?_))
 refine L_op rfl (op_alloc (z := .agg [(.int .i64 ((0 : Nat) : Int)), (.int .i64 ((0 : Nat) : Int)), (.int .i64 ((0 : Nat) : Int)), (b64 (0#64)), (.int .i64 ((0 : Nat) : Int)), (b64 (0#64)), (b64 (0#64)), (b64 (0#64))].toArray) (zs := [(.int .i64 ((0 : Nat) : Int)), (.int .i64 ((0 : Nat) : Int)), (.int .i64 ((0 : Nat) : Int)), (b64 (0#64)), (.int .i64 ((0 : Nat) : Int)), (b64 (0#64)), (b64 (0#64)), (b64 (0#64))]) kr rfl rfl rfl rfl (fun g2 => ?_))
 refine la rfl rfl rfl rfl rfl ?_
 refine la rfl rfl rfl rfl rfl ?_
 refine L_nil ?_
 refine Tsr hF rfl ?_
 refine lq rfl (ld_agg (ds := (job.map b8)) 1 rfl agg_all Try.underlying50 rfl (fwz (n := 32) kr sd) rfl rfl) rfl rfl ?_
 refine L_op rfl (op_cn (fun w hw => lnew_f job w (hok_nil w) (by first | assumption | exact sd)) (enters_of Try.func49 kr rfl) rfl rfl rfl rfl rfl (fun t3 q4 => ?_))
 obtain ⟨g5, gm6⟩ := t3
 refine lm rfl rfl rfl rfl rfl ?_
 refine L_op rfl (op_c1 1 rfl (fun w hw => lread_eq_f job g5 gm6 (lsealed job x0 x1 x2 (eights [l0, l1, l2, l3, l4, l5, l6, l7])) A c x0 x1 x2 l0 l1 l2 l3 l4 l5 l6 l7 w (hok_cons (hw _ (List.mem_of_getElem? (i := 1) rfl)) (hok_cons ((src_full (z := 1) 0 rfl sd sd sd) w hw) (hok_cons ((src_rd 4 rfl) w hw) (hok_nil w)))) (by first | assumption | exact sd) hb hh hg hp hbad hf) (enters_of Try.func52 kr rfl) rfl rfl rfl rfl rfl (fun t7 q8 => ?_))
 refine lm rfl rfl rfl rfl rfl ?_
 refine lo rfl (pr_ext (vs := [(.agg [(.int .i64 ((l0.toNat : Nat) : Int)), (.int .i64 ((l1.toNat : Nat) : Int)), (.int .i64 ((l2.toNat : Nat) : Int)), (b64 l3), (.int .i64 ((l4.toNat : Nat) : Int)), (b64 l5), (b64 l6), (b64 l7)].toArray), (b64 x1), (b64 x2), (.int .i64 ((0 : Nat) : Int))]) rfl rfl rfl) rfl rfl ?_
 refine lo rfl (pr_ext (vs := [(.agg [(.int .i64 ((l0.toNat : Nat) : Int)), (.int .i64 ((l1.toNat : Nat) : Int)), (.int .i64 ((l2.toNat : Nat) : Int)), (b64 l3), (.int .i64 ((l4.toNat : Nat) : Int)), (b64 l5), (b64 l6), (b64 l7)].toArray), (b64 x1), (b64 x2), (.int .i64 ((0 : Nat) : Int))]) rfl rfl rfl) rfl rfl ?_
 refine lo rfl (pr_ext (vs := [(.agg [(.int .i64 ((l0.toNat : Nat) : Int)), (.int .i64 ((l1.toNat : Nat) : Int)), (.int .i64 ((l2.toNat : Nat) : Int)), (b64 l3), (.int .i64 ((l4.toNat : Nat) : Int)), (b64 l5), (b64 l6), (b64 l7)].toArray), (b64 x1), (b64 x2), (.int .i64 ((0 : Nat) : Int))]) rfl rfl rfl) rfl rfl ?_
 refine lo rfl (pr_ext (vs := [(.agg [(.int .i64 ((l0.toNat : Nat) : Int)), (.int .i64 ((l1.toNat : Nat) : Int)), (.int .i64 ((l2.toNat : Nat) : Int)), (b64 l3), (.int .i64 ((l4.toNat : Nat) : Int)), (b64 l5), (b64 l6), (b64 l7)].toArray), (b64 x1), (b64 x2), (.int .i64 ((0 : Nat) : Int))]) rfl rfl rfl) rfl rfl ?_
 refine L_op rfl (op_alloc (z := .agg [(.int .i64 ((0 : Nat) : Int)), (.int .i64 ((0 : Nat) : Int)), (.int .i64 ((0 : Nat) : Int)), (b64 (0#64)), (.int .i64 ((0 : Nat) : Int)), (b64 (0#64)), (b64 (0#64)), (b64 (0#64))].toArray) (zs := [(.int .i64 ((0 : Nat) : Int)), (.int .i64 ((0 : Nat) : Int)), (.int .i64 ((0 : Nat) : Int)), (b64 (0#64)), (.int .i64 ((0 : Nat) : Int)), (b64 (0#64)), (b64 (0#64)), (b64 (0#64))]) kr rfl rfl rfl rfl (fun g9 => ?_))
 refine L_op rfl (op_sto (n := 8) (vs := [(.int .i64 ((l0.toNat : Nat) : Int)), (.int .i64 ((l1.toNat : Nat) : Int)), (.int .i64 ((l2.toNat : Nat) : Int)), (b64 l3), (.int .i64 ((l4.toNat : Nat) : Int)), (b64 l5), (b64 l6), (b64 l7)]) 0 rfl rfl kr (by simp [Value.oneCell']) kr kr rfl rfl rfl rfl ?_)
 refine la rfl rfl rfl rfl rfl ?_
 refine la rfl rfl rfl rfl rfl ?_
 refine la rfl rfl rfl rfl rfl ?_
 refine L_nil ?_
 refine Tsr hF rfl ?_
 refine lq rfl (ld_agg (ds := [(.int .i64 ((l0.toNat : Nat) : Int)), (.int .i64 ((l1.toNat : Nat) : Int)), (.int .i64 ((l2.toNat : Nat) : Int)), (b64 l3), (.int .i64 ((l4.toNat : Nat) : Int)), (b64 l5), (b64 l6), (b64 l7)]) 0 rfl agg_all Try.underlying33 rfl kr rfl rfl) rfl rfl ?_
 refine lm rfl rfl rfl rfl rfl ?_
 refine lm rfl rfl rfl rfl rfl ?_
 refine L_op rfl (op_sto (n := 8) (vs := [(.int .i64 ((l0.toNat : Nat) : Int)), (.int .i64 ((l1.toNat : Nat) : Int)), (.int .i64 ((l2.toNat : Nat) : Int)), (b64 l3), (.int .i64 ((l4.toNat : Nat) : Int)), (b64 l5), (b64 l6), (b64 l7)]) 2 rfl rfl kr (by simp [Value.oneCell']) kr kr rfl rfl rfl rfl ?_)
 refine la rfl rfl rfl rfl rfl ?_
 refine la rfl rfl rfl rfl rfl ?_
 refine L_nil ?_
 refine T_ret ?_
 exact T_fin () (by first | trivial | omega | (simp; done)) (resctt 0 rfl rfl rfl Try.underlying33 rfl kr rfl rfl) [] ⟨by decide, rfl⟩ rfl
set_option maxRecDepth 100000 in
set_option maxHeartbeats 4000000 in
theorem lopen_ne_f (job : List (BitVec 8)) (A : Option Addr) (c : Nat) (x0 : BitVec 64) (x1 : BitVec 64) (x2 : BitVec 64) (l0 : BitVec 64) (l1 : BitVec 64) (l2 : BitVec 64) (l3 : BitVec 64) (l4 : BitVec 64) (l5 : BitVec 64) (l6 : BitVec 64) (l7 : BitVec 64) (w : World) (hO : HOK [.rd A 1 104 c ((lsealed job x0 x1 x2 (eights [l0, l1, l2, l3, l4, l5, l6, l7])).map b8)] w) (hj : job.length = 32) (hbad : ¬ LBad [l0, l1, l2, l3, l4, l5, l6, l7]) (hf : ¬ l1 = x0) : Calls Try.prog 30 [(.agg (job.map b8).toArray), (.slice A 104 c)].toArray w (Ret (T := Unit) [] w (fun _ => True) (fun _ => (.tuple [(.agg [(.int .i64 ((0 : Nat) : Int)), (.int .i64 ((0 : Nat) : Int)), (.int .i64 ((0 : Nat) : Int)), (b64 (0#64)), (.int .i64 ((0 : Nat) : Int)), (b64 (0#64)), (b64 (0#64)), (b64 (0#64))].toArray), (b64 (0#64)), (.int .i64 ((4 : Nat) : Int))].toArray)) (fun _ => [])) := by
 obtain ⟨hb, hh, hg, hp⟩ := lsealed_good job x0 x1 x2 l0 l1 l2 l3 l4 l5 l6 l7
 have hF : Wid Fence.wide := wid_wide
 refine enter (c := _) Try.func30 rfl [] _ [.rd A 1 104 c ((lsealed job x0 x1 x2 (eights [l0, l1, l2, l3, l4, l5, l6, l7])).map b8)] (by rw [Try.ntmps30]; rfl) (own_rds hO rfl) ?_
 rw [Try.ntmps30]
 refine T_re [(0, (.agg (job.map b8).toArray)), (1, (.slice A 104 c))] (sc rfl (sc rfl sn)) ?_
 refine T_he [0] [.rd A 1 104 c ((lsealed job x0 x1 x2 (eights [l0, l1, l2, l3, l4, l5, l6, l7])).map b8)] ⟨by decide, rfl⟩ ?_
 refine Tsr hF rfl ?_
 refine L_op rfl (op_box (zs := (job.map b8)) rfl rfl rfl rfl rfl (fun g1 => ?_))
 refine L_op rfl (op_alloc (z := .agg [(.int .i64 ((0 : Nat) : Int)), (.int .i64 ((0 : Nat) : Int)), (.int .i64 ((0 : Nat) : Int)), (b64 (0#64)), (.int .i64 ((0 : Nat) : Int)), (b64 (0#64)), (b64 (0#64)), (b64 (0#64))].toArray) (zs := [(.int .i64 ((0 : Nat) : Int)), (.int .i64 ((0 : Nat) : Int)), (.int .i64 ((0 : Nat) : Int)), (b64 (0#64)), (.int .i64 ((0 : Nat) : Int)), (b64 (0#64)), (b64 (0#64)), (b64 (0#64))]) kr rfl rfl rfl rfl (fun g2 => ?_))
 refine la rfl rfl rfl rfl rfl ?_
 refine la rfl rfl rfl rfl rfl ?_
 refine L_nil ?_
 refine Tsr hF rfl ?_
 refine lq rfl (ld_agg (ds := (job.map b8)) 1 rfl agg_all Try.underlying50 rfl (fwz (n := 32) kr sd) rfl rfl) rfl rfl ?_
 refine L_op rfl (op_cn (fun w hw => lnew_f job w (hok_nil w) (by first | assumption | exact sd)) (enters_of Try.func49 kr rfl) rfl rfl rfl rfl rfl (fun t3 q4 => ?_))
 obtain ⟨g5, gm6⟩ := t3
 refine lm rfl rfl rfl rfl rfl ?_
 refine L_op rfl (op_c1 1 rfl (fun w hw => lread_ne_f job g5 gm6 (lsealed job x0 x1 x2 (eights [l0, l1, l2, l3, l4, l5, l6, l7])) A c x0 x1 x2 l0 l1 l2 l3 l4 l5 l6 l7 w (hok_cons (hw _ (List.mem_of_getElem? (i := 1) rfl)) (hok_cons ((src_full (z := 1) 0 rfl sd sd sd) w hw) (hok_cons ((src_rd 4 rfl) w hw) (hok_nil w)))) (by first | assumption | exact sd) hb hh hg hp hbad hf) (enters_of Try.func52 kr rfl) rfl rfl rfl rfl rfl (fun t7 q8 => ?_))
 refine lm rfl rfl rfl rfl rfl ?_
 refine lo rfl (pr_ext (vs := [(.agg [(.int .i64 ((0 : Nat) : Int)), (.int .i64 ((0 : Nat) : Int)), (.int .i64 ((0 : Nat) : Int)), (b64 (0#64)), (.int .i64 ((0 : Nat) : Int)), (b64 (0#64)), (b64 (0#64)), (b64 (0#64))].toArray), (b64 (0#64)), (b64 (0#64)), (.int .i64 ((4 : Nat) : Int))]) rfl rfl rfl) rfl rfl ?_
 refine lo rfl (pr_ext (vs := [(.agg [(.int .i64 ((0 : Nat) : Int)), (.int .i64 ((0 : Nat) : Int)), (.int .i64 ((0 : Nat) : Int)), (b64 (0#64)), (.int .i64 ((0 : Nat) : Int)), (b64 (0#64)), (b64 (0#64)), (b64 (0#64))].toArray), (b64 (0#64)), (b64 (0#64)), (.int .i64 ((4 : Nat) : Int))]) rfl rfl rfl) rfl rfl ?_
 refine lo rfl (pr_ext (vs := [(.agg [(.int .i64 ((0 : Nat) : Int)), (.int .i64 ((0 : Nat) : Int)), (.int .i64 ((0 : Nat) : Int)), (b64 (0#64)), (.int .i64 ((0 : Nat) : Int)), (b64 (0#64)), (b64 (0#64)), (b64 (0#64))].toArray), (b64 (0#64)), (b64 (0#64)), (.int .i64 ((4 : Nat) : Int))]) rfl rfl rfl) rfl rfl ?_
 refine lo rfl (pr_ext (vs := [(.agg [(.int .i64 ((0 : Nat) : Int)), (.int .i64 ((0 : Nat) : Int)), (.int .i64 ((0 : Nat) : Int)), (b64 (0#64)), (.int .i64 ((0 : Nat) : Int)), (b64 (0#64)), (b64 (0#64)), (b64 (0#64))].toArray), (b64 (0#64)), (b64 (0#64)), (.int .i64 ((4 : Nat) : Int))]) rfl rfl rfl) rfl rfl ?_
 refine L_op rfl (op_alloc (z := .agg [(.int .i64 ((0 : Nat) : Int)), (.int .i64 ((0 : Nat) : Int)), (.int .i64 ((0 : Nat) : Int)), (b64 (0#64)), (.int .i64 ((0 : Nat) : Int)), (b64 (0#64)), (b64 (0#64)), (b64 (0#64))].toArray) (zs := [(.int .i64 ((0 : Nat) : Int)), (.int .i64 ((0 : Nat) : Int)), (.int .i64 ((0 : Nat) : Int)), (b64 (0#64)), (.int .i64 ((0 : Nat) : Int)), (b64 (0#64)), (b64 (0#64)), (b64 (0#64))]) kr rfl rfl rfl rfl (fun g9 => ?_))
 refine L_op rfl (op_sto (n := 8) (vs := [(.int .i64 ((0 : Nat) : Int)), (.int .i64 ((0 : Nat) : Int)), (.int .i64 ((0 : Nat) : Int)), (b64 (0#64)), (.int .i64 ((0 : Nat) : Int)), (b64 (0#64)), (b64 (0#64)), (b64 (0#64))]) 0 rfl rfl kr (by simp [Value.oneCell']) kr kr rfl rfl rfl rfl ?_)
 refine la rfl rfl rfl rfl rfl ?_
 refine la rfl rfl rfl rfl rfl ?_
 refine la rfl rfl rfl rfl rfl ?_
 refine L_nil ?_
 refine Tsr hF rfl ?_
 refine lq rfl (ld_agg (ds := [(.int .i64 ((0 : Nat) : Int)), (.int .i64 ((0 : Nat) : Int)), (.int .i64 ((0 : Nat) : Int)), (b64 (0#64)), (.int .i64 ((0 : Nat) : Int)), (b64 (0#64)), (b64 (0#64)), (b64 (0#64))]) 0 rfl agg_all Try.underlying33 rfl kr rfl rfl) rfl rfl ?_
 refine lm rfl rfl rfl rfl rfl ?_
 refine lm rfl rfl rfl rfl rfl ?_
 refine L_op rfl (op_sto (n := 8) (vs := [(.int .i64 ((0 : Nat) : Int)), (.int .i64 ((0 : Nat) : Int)), (.int .i64 ((0 : Nat) : Int)), (b64 (0#64)), (.int .i64 ((0 : Nat) : Int)), (b64 (0#64)), (b64 (0#64)), (b64 (0#64))]) 2 rfl rfl kr (by simp [Value.oneCell']) kr kr rfl rfl rfl rfl ?_)
 refine la rfl rfl rfl rfl rfl ?_
 refine la rfl rfl rfl rfl rfl ?_
 refine L_nil ?_
 refine T_ret ?_
 exact T_fin () (by first | trivial | omega | (simp; done)) (resctt 0 rfl rfl rfl Try.underlying33 rfl kr rfl rfl) [] ⟨by decide, rfl⟩ rfl
end Go.Proofs.Ytlplpmkdebemnaa
