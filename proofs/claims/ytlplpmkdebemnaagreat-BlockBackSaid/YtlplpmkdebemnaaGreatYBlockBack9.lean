/- Walks by facts, part 9: what the functions that the law reaches answer. No conditions but lengths. -/
import Derived.Test.YtlplpmkdebemnaaGreatYBlockBack8
import Derived.Test.YtlplpmkdebemnaaGreatProg
import Derived.Laws.Concat
set_option linter.unusedVariables false
set_option linter.unusedSimpArgs false
set_option linter.unnecessarySimpa false
namespace Go.Proofs.YtlplpmkdebemnaaGreat
open Bv Fw
def z16 (xs : List (BitVec 8)) : List (BitVec 8) := List.replicate ((16 - xs.length % 16) % 16) 0#8
theorem z16_def (xs : List (BitVec 8)) (n : Nat) (h : xs.length = n) : List.replicate ((16 - n % 16) % 16) 0#8 = z16 xs := by subst h; rfl
def lens8 (a c : List (BitVec 8)) : List (BitVec 8) := lowb (BitVec.ofNat 64 a.length) 8 ++ lowb (BitVec.ofNat 64 c.length) 8
def pdc (a c : List (BitVec 8)) : Nat → List (BitVec 8)
  | 0 => a
  | 1 => z16 a
  | 2 => c
  | 3 => z16 c
  | _ => lens8 a c
def pdcat (a c : List (BitVec 8)) : Nat → List (BitVec 8)
  | 0 => []
  | k + 1 => pdcat a c k ++ pdc a c k
theorem pdcat_zero (a c : List (BitVec 8)) : pdcat a c 0 = [] := rfl
theorem pd_next {Q : List Pt} {a c : List (BitVec 8)} {B : Option Addr} {m d k : Nat} (h : catp Q = pdcat a c k) : catp (Q ++ [Pt.mk B m d (pdc a c k)]) = pdcat a c (k + 1) := by
  rw [pdcat, ← h]; simp [catp]
theorem pdc0 (a c : List (BitVec 8)) : pdc a c 0 = a := rfl
theorem pdc1 (a c : List (BitVec 8)) (n : Nat) (h : a.length = n) : pdc a c 1 = List.replicate ((16 - n % 16) % 16) 0#8 := by subst h; rfl
theorem pdc2 (a c : List (BitVec 8)) : pdc a c 2 = c := rfl
theorem pdc3 (a c : List (BitVec 8)) (n : Nat) (h : c.length = n) : pdc a c 3 = List.replicate ((16 - n % 16) % 16) 0#8 := by subst h; rfl
theorem pdc4 (a c : List (BitVec 8)) (n m : Nat) (h : a.length = n) (h2 : c.length = m) : pdc a c 4 = ([] ++ lowb (BitVec.ofNat 64 n) 8) ++ lowb (BitVec.ofNat 64 m) 8 := by subst h; subst h2; rfl
def atext (a c : List (BitVec 8)) : List (BitVec 8) := ((a ++ z16 a) ++ (c ++ z16 c)) ++ lens8 a c
theorem atext_def (a c : List (BitVec 8)) : ((a ++ z16 a) ++ (c ++ z16 c)) ++ lens8 a c = atext a c := rfl
theorem pdcat_all (a c : List (BitVec 8)) : pdcat a c 5 = atext a c := by
  have e : pdcat a c 5 = ((((([] ++ a) ++ z16 a) ++ c) ++ z16 c) ++ lens8 a c) := rfl
  rw [e]; unfold atext; simp
theorem z16_le (xs : List (BitVec 8)) : (z16 xs).length ≤ 15 := by unfold z16; rw [List.length_replicate]; omega
theorem lens8_len (a c : List (BitVec 8)) : (lens8 a c).length = 16 := by unfold lens8; rw [List.length_append, lowb_len, lowb_len]
theorem atext_le (a c : List (BitVec 8)) : (atext a c).length ≤ a.length + c.length + 46 := by
  unfold atext
  have h1 := z16_le a
  have h2 := z16_le c
  simp only [List.length_append, lens8_len]
  omega
def atag (key nonce a c : List (BitVec 8)) : List (BitVec 8) := ptag (List.take 32 (cblock key 0#32 nonce)) (atext a c)
theorem atag_def (key nonce a c : List (BitVec 8)) : ptag (List.take 32 (cblock key 0#32 nonce)) (atext a c) = atag key nonce a c := rfl
theorem atag_len (key nonce a c : List (BitVec 8)) : (atag key nonce a c).length = 16 := ptag_len _ _
def aseal (key nonce a p : List (BitVec 8)) : List (BitVec 8) := cxor key nonce 1#32 p ++ atag key nonce a (cxor key nonce 1#32 p)
theorem aseal_def (key nonce a p : List (BitVec 8)) : cxor key nonce 1#32 p ++ atag key nonce a (cxor key nonce 1#32 p) = aseal key nonce a p := rfl
theorem aseal_len (key nonce a p : List (BitVec 8)) : (aseal key nonce a p).length = p.length + 16 := by
  unfold aseal; rw [List.length_append, cxor_len, atag_len]
def agood (key nonce a s : List (BitVec 8)) : Prop := atag key nonce a (List.take (s.length - 16) s) = List.drop (s.length - 16) s
instance (key nonce a s : List (BitVec 8)) : Decidable (agood key nonce a s) := by unfold agood; exact inferInstance
theorem agood_iff (key nonce a s : List (BitVec 8)) (n : Nat) (h : s.length = n) : agood key nonce a s ↔ atag key nonce a (List.take (n - 16) s) = List.drop (n - 16) s := by subst h; exact Iff.rfl
def aplain (key nonce s : List (BitVec 8)) : List (BitVec 8) := cxor key nonce 1#32 (List.take (s.length - 16) s)
theorem aplain_def (key nonce s : List (BitVec 8)) (n : Nat) (h : s.length = n) : cxor key nonce 1#32 (List.take (n - 16) s) = aplain key nonce s := by subst h; rfl
theorem aplain_len (key nonce s : List (BitVec 8)) : (aplain key nonce s).length = s.length - 16 := by
  unfold aplain; rw [cxor_len, List.length_take]; omega
theorem aseal_take (key nonce a p : List (BitVec 8)) : List.take ((aseal key nonce a p).length - 16) (aseal key nonce a p) = cxor key nonce 1#32 p := by
  rw [aseal_len, Nat.add_sub_cancel]; unfold aseal
  rw [List.take_append_of_le_length (by rw [cxor_len]; omega), List.take_of_length_le (by rw [cxor_len]; omega)]
theorem aseal_drop (key nonce a p : List (BitVec 8)) : List.drop ((aseal key nonce a p).length - 16) (aseal key nonce a p) = atag key nonce a (cxor key nonce 1#32 p) := by
  rw [aseal_len, Nat.add_sub_cancel]; unfold aseal
  rw [List.drop_append_of_le_length (by rw [cxor_len]; omega), List.drop_of_length_le (by rw [cxor_len]; omega), List.nil_append]
theorem agood_seal (key nonce a p : List (BitVec 8)) : agood key nonce a (aseal key nonce a p) := by
  unfold agood; rw [aseal_take, aseal_drop]
theorem aplain_seal (key nonce a p : List (BitVec 8)) : aplain key nonce (aseal key nonce a p) = p := by
  unfold aplain; rw [aseal_take, cxor_cxor]
/-! Texts held against each other without branches. -/
def orx (xs ys : List (BitVec 8)) : Nat → BitVec 8
  | 0 => 0#8
  | k + 1 => orx xs ys k ||| (ath xs k ^^^ ath ys k)
theorem orx_zero (xs ys : List (BitVec 8)) : orx xs ys 0 = 0#8 := rfl
theorem orx_succ (xs ys : List (BitVec 8)) (k : Nat) : orx xs ys (k + 1) = orx xs ys k ||| (ath xs k ^^^ ath ys k) := rfl
theorem orx_iff (xs ys : List (BitVec 8)) : ∀ k, orx xs ys k = 0#8 ↔ ∀ j, j < k → ath xs j = ath ys j
  | 0 => ⟨fun _ j hj => by omega, fun _ => rfl⟩
  | k + 1 => by
    rw [orx, BitVec.or_eq_zero_iff, orx_iff xs ys k, BitVec.xor_eq_zero_iff]
    refine ⟨fun ⟨h1, h2⟩ j hj => ?_, fun h => ⟨fun j hj => h j oM, h k oM⟩⟩
    by_cases e : j = k
    · subst e; exact h2
    · exact h1 j oM
def eqw (xs ys : List (BitVec 8)) : BitVec 64 := if xs = ys then 1#64 else 0#64
theorem eqw_of (xs ys : List (BitVec 8)) (n : Nat) (hx : xs.length = n) (hy : ys.length = n) : CtPure.same ((orx xs ys n).setWidth 64) 0#64 = eqw xs ys := by
  rw [CtPure.same_eq]
  unfold eqw
  have h1 : ((orx xs ys n).setWidth 64 = 0#64) ↔ xs = ys := by
    have h2 : ((orx xs ys n).setWidth 64 = 0#64) ↔ orx xs ys n = 0#8 := by
      constructor
      · intro h
        apply BitVec.eq_of_toNat_eq
        have := congrArg BitVec.toNat h
        rw [BitVec.toNat_setWidth] at this
        have hl := (orx xs ys n).isLt
        have h0 : (0#64).toNat = 0 := rfl
        have h0' : (0#8).toNat = 0 := rfl
        rw [h0] at this
        rw [h0']
        omega
      · intro h; rw [h]; rfl
    rw [h2, orx_iff]
    exact ⟨fun h => ext_ath oM (fun j hj => h j oM), fun h j _ => by rw [h]⟩
  by_cases h : xs = ys
  · rw [if_pos h, if_pos (h1.2 h)]
  · rw [if_neg h, if_neg (fun e => h (h1.1 e))]
theorem eqw_yes {xs ys : List (BitVec 8)} (h : xs = ys) : (eqw xs ys == 0#64) = false := by unfold eqw; rw [if_pos h]; rfl
theorem eqw_no {xs ys : List (BitVec 8)} (h : ¬ xs = ys) : (eqw xs ys == 0#64) = true := by unfold eqw; rw [if_neg h]; rfl
attribute [irreducible] z16 lens8 pdc pdcat atext atag aseal agood aplain orx eqw
end Go.Proofs.YtlplpmkdebemnaaGreat
namespace Go.Proofs.YtlplpmkdebemnaaGreat
set_option maxRecDepth 100000
open Go.RowKit Bv Fw
set_option maxHeartbeats 4000000 in
theorem ctsame_f (x : BitVec 64) (y : BitVec 64) (w : World) (hO : HOK [] w)  : Calls Tryz.prog 66 [(b64 x), (b64 y)].toArray w (Ret (T := Unit) [] w (fun _ => True) (fun _ => (b64 (CtPure.same x y))) (fun _ => [])) := by
 refine enter (c := _) Tryz.func66 rfl [] _ [] (by rw [Tryz.ntmps66]; rfl) (own_rds hO rfl) ?_
 rw [Tryz.ntmps66]
 refine lE [(0, (b64 x)), (1, (b64 y))] ?_
 refine lH [] [] ?_
 refine lT ?_
 refine lS ?_
 refine lN ?_
 refine lM ?_
 refine lM ?_
 refine lO (pr_xor (ib_xor64 _ _) rfl rfl rfl) ?_
 refine lS ?_
 refine lN ?_
 refine lM ?_
 refine lM ?_
 refine lO (pr_un (un_neg64 _) rfl rfl) ?_
 refine lO (pr_or (ib_or64 _ _) rfl rfl rfl) ?_
 refine lO (pr_shift (sh_shr64 ((x ^^^ y) ||| (-(x ^^^ y))) _ 63) rfl rfl rfl rfl) ?_
 refine lO (pr_xor (ib_xor64 _ (1#64)) rfl rfl rfl) ?_
 refine lS ?_
 refine L_nil ?_
 refine T_ret ?_
 refine T_slot 4 (b64 ((((x ^^^ y) ||| (-(x ^^^ y))) >>> 63) ^^^ 1#64)) (b64 (CtPure.same x y)) rfl (by rfl) ?_
 exact T_fin () qN (res1 rfl rfl) [] ⟨by decide, rfl⟩ rfl
set_option maxHeartbeats 4000000 in
theorem ctequal_f (xs : List (BitVec 8)) (A : Option Addr) (n : Nat) (c : Nat) (ys : List (BitVec 8)) (B : Option Addr) (d : Nat) (w : World) (hO : HOK [.rd A 1 n c (xs.map b8), .rd B 1 n d (ys.map b8)] w) (hx : xs.length = n) (hy : ys.length = n) (hn : n ≤ 100000000) : Calls Tryz.prog 44 [(.slice A n c), (.slice B n d)].toArray w (Ret (T := Unit) [] w (fun _ => True) (fun _ => (b64 (eqw xs ys))) (fun _ => [])) := by
 have hF : Wid Fence.wide := wid_wide
 refine enter (c := _) Tryz.func44 rfl [] _ [.rd A 1 n c (xs.map b8), .rd B 1 n d (ys.map b8)] (by rw [Tryz.ntmps44]; rfl) (own_rds hO rfl) ?_
 rw [Tryz.ntmps44]
 refine lE [(0, (.slice A n c)), (1, (.slice B n d))] ?_
 refine lH [0, 1] [.rd A 1 n c (xs.map b8), .rd B 1 n d (ys.map b8)] ?_
 refine lT ?_
 refine lS ?_
 refine L_nil ?_
 refine T_seq ?_
 refine lT ?_
 refine lM ?_
 refine lO (pr_len_sl Tryz.underlying27 rfl rfl) ?_
 refine lM ?_
 refine lO (pr_len_sl Tryz.underlying27 rfl rfl) ?_
 refine lO (pr_cmp (bo := .neq) (nc_ne (a := n) (b := n)) rfl rfl rfl rfl) ?_
 refine L_nil ?_
 refine T_cond_no (t := (n != n)) rfl (by simp) ?_
 refine T_skip ?_
 refine lT ?_
 refine lS ?_
 refine L_nil ?_
 refine T_seq ?_
 refine lT ?_
 refine lM ?_
 refine lO (pr_len_sl Tryz.underlying27 rfl rfl) ?_
 refine lM ?_
 refine L_nil ?_
 refine T_block ?_
 refine T_slot 5 (b8 (0#8)) (b8 (orx xs ys 0)) rfl (by rw [orx_zero]) ?_
 refine T_loop (T := Nat) (fun i => i ≤ n) (fun i => [(0, (.slice A n c)), (1, (.slice B n d)), (5, (b8 (orx xs ys i))), (13, (.int .i64 ((n : Nat) : Int))), (14, (.int .i64 ((i : Nat) : Int)))]) (fun i => [.rd A 1 n c (xs.map b8), .rd B 1 n d (ys.map b8)]) (fun i => n - i) 0 pN (sc rfl (sc rfl (sc rfl (sc rfl (sc rfl sn))))) [0, 1] ⟨by decide, rfl⟩ ?_
 rintro i hp
 have hp : i ≤ n := hp
 refine lE [(0, (.slice A n c)), (1, (.slice B n d)), (5, (b8 (orx xs ys i))), (13, (.int .i64 ((n : Nat) : Int))), (14, (.int .i64 ((i : Nat) : Int)))] ?_
 refine lH [0, 1] [.rd A 1 n c (xs.map b8), .rd B 1 n d (ys.map b8)] ?_
 refine lT ?_
 refine lO (pr_cmp (bo := .lss) (nc_lt (a := i) (b := n)) rfl rfl rfl rfl) ?_
 refine L_nil ?_
 refine T_seq ?_
 refine T_cond (decide (i < n)) rfl (fun hc_1 => ?_) (fun hc_1 => ?_)
 ·have hc_1 := of_decide_eq_true hc_1
  refine T_skip ?_
  refine T_seq ?_
  refine T_block ?_
  refine lT ?_
  refine lM ?_
  refine lS ?_
  refine L_nil ?_
  refine T_regD [.rd A 1 n c (xs.map b8), .rd B 1 n d (ys.map b8)] 12 12 #[false, false, false, false, false, false, false, false, false, false, false, false] hF kr kr ?_
  refine D_pure (i := 0) [0, 1] rfl kr rfl (pr_move rfl rfl) (.inr rfl) rfl rfl ?_
  refine D_pure (i := 1) [0, 1] rfl kr rfl (pr_move rfl rfl) (.inr rfl) rfl rfl ?_
  refine D_pure (i := 2) [0, 1] rfl kr rfl (pr_move rfl rfl) (.inr rfl) rfl rfl ?_
  refine D_pure (i := 3) [0, 1] rfl kr rfl (pr_ixs1 (j := i) (src_none (src_rd 0 rfl)) sd Tryz.underlying27 kr rfl rfl rfl) (.inr rfl) rfl rfl ?_
  refine D_pure (i := 5) [0, 1] rfl kr rfl (pr_move rfl rfl) (.inr rfl) rfl rfl ?_
  refine D_pure (i := 6) [0, 1] rfl kr rfl (pr_move rfl rfl) (.inr rfl) rfl rfl ?_
  refine D_pure (i := 7) [0, 1] rfl kr rfl (pr_ixs1 (j := i) (src_none (src_rd 1 rfl)) sd Tryz.underlying27 kr rfl rfl rfl) (.inr rfl) rfl rfl ?_
  refine D_take (i := 4) [0, 1] rfl kr rfl (ld_src (m := i) (src_rd 0 rfl) (get8 sd) Tryz.underlying5 rfl rfl rfl) rfl rfl rfl ?_
  refine D_take (i := 8) [0, 1] rfl kr rfl (ld_src (m := i) (src_rd 1 rfl) (get8 sd) Tryz.underlying5 rfl rfl rfl) rfl rfl rfl ?_
  refine D_pure (i := 9) [0, 1] rfl kr rfl (pr_xor (ib_xor8 _ _) rfl rfl rfl) (.inr rfl) rfl rfl ?_
  refine D_pure (i := 10) [0, 1] rfl kr rfl (pr_or (ib_or8 _ _) rfl rfl rfl) (.inr rfl) rfl rfl ?_
  refine D_pure (i := 11) [0, 1] rfl kr rfl (pr_assign rfl rfl) (.inr rfl) rfl rfl ?_
  refine D_done kr ?_
  refine lR ?_
  refine lO (pr_add (na_i64 (a := i) (b := 1) sd) rfl rfl rfl) ?_
  refine lM ?_
  refine L_nil ?_
  refine T_slot 5 (b8 ((orx xs ys i) ||| ((ath xs i) ^^^ (ath ys i)))) (b8 (orx xs ys (i + 1))) rfl (by rw [orx_succ]) ?_
  exact T_again (i + 1) pN pN (sc rfl (sc rfl (sc rfl (sc rfl (sc rfl sn))))) [0, 1] ⟨by decide, rfl⟩
 have hc_1 := of_decide_eq_false hc_1
 refine T_exit rfl ?_
 obtain rfl : n = i := by omega
 refine lT ?_
 refine lM ?_
 refine lO (pr_cv (cv8_64 _) Tryz.underlying5 Tryz.underlying23 rfl rfl) ?_
 refine L_op rfl (op_cn (fun w hw => ctsame_f ((orx xs ys n).setWidth 64) (0#64) w (hok_nil w) ) (enters_of Tryz.func66 kr rfl) rfl rfl rfl rfl rfl (fun t2 q3 => ?_))
 refine lS ?_
 refine L_nil ?_
 refine T_ret ?_
 refine T_slot 4 (b64 (CtPure.same ((orx xs ys n).setWidth 64) (0#64))) (b64 (eqw xs ys)) rfl (by rw [eqw_of xs ys n hx hy]) ?_
 exact T_fin () qN (res1 rfl rfl) [] ⟨by decide, rfl⟩ rfl
set_option maxRecDepth 100000 in
set_option maxHeartbeats 4000000 in
theorem padded_seq (aad : List (BitVec 8)) (cs : List (BitVec 8)) (A1 : Option Addr) (n1 : Nat) (c1 : Nat) (A2 : Option Addr) (n2 : Nat) (c2 : Nat) (A : Option Addr) (g1 : Nat) (h1 : aad.length = n1) (h2 : cs.length = n2) (h3 : n1 ≤ 100000000) (h4 : n2 ≤ 100000000) : SeqC (Θ := Option Addr × Nat × Nat) Tryz.prog 76 [(.pointer (some ⟨g1, 0, none⟩))] [.rd (some ⟨g1, 0, none⟩) 1 1 1 [(.slice A 2 2)], .rd A 1 2 2 [(.slice A1 n1 c1), (.slice A2 n2 c2)], .rd A1 1 n1 c1 (aad.map b8), .rd A2 1 n2 c2 (cs.map b8)] 5 (fun k ⟨B, m, c⟩ => [(.slice B m c)]) (fun k ⟨B, m, c⟩ => [.rd B 1 m c ((pdc aad cs k).map b8)]) := by
 have hF : Wid Fence.wide := wid_wide
 refine enter_seq (c := _) Tryz.func76 rfl (by rw [Tryz.ntmps76]; rfl) rfl ?_
 intro l J Jx W O R hsJ hsX hy hend
 rw [Tryz.ntmps76]
 refine lE [(0, (.func (.yield l) #[] #[])), (1, (.pointer (some ⟨g1, 0, none⟩)))] ?_
 refine lH [0, 1, 2, 3, 4] [.inv W.heap.size O R (J 0 O R), .rd (some ⟨g1, 0, none⟩) 1 1 1 [(.slice A 2 2)], .rd A 1 2 2 [(.slice A1 n1 c1), (.slice A2 n2 c2)], .rd A1 1 n1 c1 (aad.map b8), .rd A2 1 n2 c2 (cs.map b8)] ?_
 refine lT ?_
 refine lS ?_
 refine L_nil ?_
 refine T_seq ?_
 refine lT ?_
 refine lQ (ld_rdb (src_rd 1 rfl) rfl Tryz.underlying85 rfl rfl rfl) ?_
 refine lO (pr_len_sl Tryz.underlying85 rfl rfl) ?_
 refine lM ?_
 refine L_nil ?_
 refine T_block ?_
 refine T_rounds 3 ?_
 refine T_round ?_
 refine lT ?_
 refine lO (pr_cmp (bo := .lss) (nc_lt (a := 0) (b := 2)) rfl rfl rfl rfl) ?_
 refine L_nil ?_
 refine T_seq ?_
 refine T_cond_t rfl ?_
 refine T_skip ?_
 refine T_seq ?_
 refine T_block ?_
 refine lT ?_
 refine lO (pr_ixs1 (j := 0) (src_none (src_rd 2 rfl)) sd Tryz.underlying85 kr rfl rfl rfl) ?_
 refine lQ (ld_src (m := 0) (src_rd 2 rfl) rfl Tryz.underlying27 rfl rfl rfl) ?_
 refine lS ?_
 refine lN ?_
 refine lM ?_
 refine lM ?_
 refine lO (pr_len_sl Tryz.underlying27 rfl rfl) ?_
 refine lO (pr_cv (ni_u64 (a := n1) sd) Tryz.underlying3 Tryz.underlying23 rfl rfl) ?_
 refine T_slot 15 _ (b64 (BitVec.ofNat 64 n1)) rfl (nat64 sd) ?_
 refine T_nilrow 5 1 ?_
 refine L_op rfl (op_c1 0 rfl (fun w hw => putLow_f [] (BitVec.ofNat 64 n1) 8 none 0 0 w (hw _ (List.mem_of_getElem? (i := 0) rfl)) sd sd) (enters_of Tryz.func51 kr rfl) rfl rfl rfl rfl rfl (fun t1 q2 => ?_))
 obtain ⟨B3, d4⟩ := t1
 refine lS ?_
 refine L_nil ?_
 refine T_seq ?_
 refine T_regI ?_
 refine LI_opP hF rfl rfl (op_pr (pr_move rfl rfl) rfl rfl ?_)
 refine LI_opP hF rfl rfl (op_pr (pr_move rfl rfl) rfl rfl ?_)
 refine T_as 4 _ (.rd A1 1 n1 c1 ((pdc aad cs 0).map b8)) rfl (by rw [pdc0]) ?_
 refine LI_op rfl (op_yield (k := 0) ((A1 : Option Addr), (n1 : Nat), (c1 : Nat)) hy sd hsJ hsX 2 rfl [0] rfl rfl rfl rfl rfl rfl rfl rfl rfl (fun _ => trivial) (fun O5 R6 => ?_) (fun O7 R8 => ?_))
 ·refine LI_opP hF rfl rfl (op_pr (pr_un (v := .bool false) rfl rfl rfl) rfl rfl ?_)
  refine LI_opP hF rfl rfl (op_pr (pr_move rfl rfl) rfl rfl ?_)
  refine LI_opP hF rfl rfl (op_pr (pr_move rfl rfl) rfl rfl ?_)
  refine LI_opP hF rfl rfl (op_pr (pr_move rfl rfl) rfl rfl ?_)
  refine LI_opP hF rfl rfl (op_pr (pr_len_sl Tryz.underlying27 rfl rfl) rfl rfl ?_)
  refine LI_opP hF rfl rfl (op_pr (pr_rem (a := n1) (b := 16) sd rfl rfl rfl) rfl rfl ?_)
  refine LI_opP hF rfl rfl (op_pr (pr_sub (ns_i64 (a := 16) (b := n1 % 16) sd sd) rfl rfl rfl) rfl rfl ?_)
  refine LI_opP hF rfl rfl (op_pr (pr_rem (a := 16 - (n1 % 16)) (b := 16) sd rfl rfl rfl) rfl rfl ?_)
  refine LI_opP hF rfl rfl (op_make (z := (b8 (0#8))) (n := (16 - (n1 % 16)) % 16) (c := (16 - (n1 % 16)) % 16) Tryz.underlying27 (bytes := 1) kr rfl sd sd sd rfl rfl rfl rfl rfl (fun g9 => ?_))
  refine T_as 0 _ (.blk g9 5 ((List.replicate ((16 - (n1 % 16)) % 16) 0#8).map b8)) rfl (by rw [List.map_replicate]) ?_
  refine T_oldb 0 (zs := ((List.replicate ((16 - (n1 % 16)) % 16) 0#8).map b8)) 0 1 ((16 - (n1 % 16)) % 16) ((16 - (n1 % 16)) % 16) rfl (by simp) (by rw [List.drop_zero, List.take_of_length_le (by simp)]) (Nat.le_refl _) oM ?_
  refine T_tord 0 rfl ?_
  refine T_as 0 _ (.rd (some ⟨g9, 0, none⟩) 1 ((16 - (n1 % 16)) % 16) ((16 - (n1 % 16)) % 16) ((pdc aad cs 1).map b8)) rfl (by rw [pdc1 aad cs n1 h1]) ?_
  refine LI_op rfl (op_yield (k := 1) ((some ⟨g9, 0, none⟩ : Option Addr), ((16 - (n1 % 16)) % 16 : Nat), ((16 - (n1 % 16)) % 16 : Nat)) hy sd hsJ hsX 1 rfl [0] rfl rfl rfl rfl rfl rfl rfl rfl rfl (fun _ => trivial) (fun O10 R11 => ?_) (fun O12 R13 => ?_))
  ·refine LI_opP hF rfl rfl (op_pr (pr_un (v := .bool false) rfl rfl rfl) rfl rfl ?_)
   refine LI_opP hF rfl rfl (op_pr (pr_pick_f rfl rfl rfl) rfl rfl ?_)
   refine LI_nil ?_
   refine T_cond_f rfl ?_
   refine T_skip ?_
   refine lR ?_
   refine lO (pr_add (na_i64 (a := 0) (b := 1) sd) rfl rfl rfl) ?_
   refine lM ?_
   refine L_nil ?_
   refine T_round ?_
   refine lT ?_
   refine lO (pr_cmp (bo := .lss) (nc_lt (a := 1) (b := 2)) rfl rfl rfl rfl) ?_
   refine L_nil ?_
   refine T_seq ?_
   refine T_cond_t rfl ?_
   refine T_skip ?_
   refine T_seq ?_
   refine T_block ?_
   refine lT ?_
   refine lO (pr_ixs1 (j := 1) (src_none (src_rd 5 rfl)) sd Tryz.underlying85 kr rfl rfl rfl) ?_
   refine lQ (ld_src (m := 1) (src_rd 5 rfl) rfl Tryz.underlying27 rfl rfl rfl) ?_
   refine lS ?_
   refine lN ?_
   refine lM ?_
   refine lM ?_
   refine lO (pr_len_sl Tryz.underlying27 rfl rfl) ?_
   refine lO (pr_cv (ni_u64 (a := n2) sd) Tryz.underlying3 Tryz.underlying23 rfl rfl) ?_
   refine T_slot 15 _ (b64 (BitVec.ofNat 64 n2)) rfl (nat64 sd) ?_
   refine L_op rfl (op_c1 3 rfl (fun w hw => putLow_f ([] ++ lowb (BitVec.ofNat 64 n1) 8) (BitVec.ofNat 64 n2) 8 B3 (0 + 8) d4 w (hw _ (List.mem_of_getElem? (i := 3) rfl)) sd sd) (enters_of Tryz.func51 kr rfl) rfl rfl rfl rfl rfl (fun t14 q15 => ?_))
   obtain ⟨B16, d17⟩ := t14
   refine lS ?_
   refine L_nil ?_
   refine T_seq ?_
   refine T_regI ?_
   refine LI_opP hF rfl rfl (op_pr (pr_move rfl rfl) rfl rfl ?_)
   refine LI_opP hF rfl rfl (op_pr (pr_move rfl rfl) rfl rfl ?_)
   refine T_as 6 _ (.rd A2 1 n2 c2 ((pdc aad cs 2).map b8)) rfl (by rw [pdc2]) ?_
   refine LI_op rfl (op_yield (k := 2) ((A2 : Option Addr), (n2 : Nat), (c2 : Nat)) hy sd hsJ hsX 2 rfl [0] rfl rfl rfl rfl rfl rfl rfl rfl rfl (fun _ => trivial) (fun O18 R19 => ?_) (fun O20 R21 => ?_))
   ·refine LI_opP hF rfl rfl (op_pr (pr_un (v := .bool false) rfl rfl rfl) rfl rfl ?_)
    refine LI_opP hF rfl rfl (op_pr (pr_move rfl rfl) rfl rfl ?_)
    refine LI_opP hF rfl rfl (op_pr (pr_move rfl rfl) rfl rfl ?_)
    refine LI_opP hF rfl rfl (op_pr (pr_move rfl rfl) rfl rfl ?_)
    refine LI_opP hF rfl rfl (op_pr (pr_len_sl Tryz.underlying27 rfl rfl) rfl rfl ?_)
    refine LI_opP hF rfl rfl (op_pr (pr_rem (a := n2) (b := 16) sd rfl rfl rfl) rfl rfl ?_)
    refine LI_opP hF rfl rfl (op_pr (pr_sub (ns_i64 (a := 16) (b := n2 % 16) sd sd) rfl rfl rfl) rfl rfl ?_)
    refine LI_opP hF rfl rfl (op_pr (pr_rem (a := 16 - (n2 % 16)) (b := 16) sd rfl rfl rfl) rfl rfl ?_)
    refine LI_opP hF rfl rfl (op_make (z := (b8 (0#8))) (n := (16 - (n2 % 16)) % 16) (c := (16 - (n2 % 16)) % 16) Tryz.underlying27 (bytes := 1) kr rfl sd sd sd rfl rfl rfl rfl rfl (fun g22 => ?_))
    refine T_as 0 _ (.blk g22 5 ((List.replicate ((16 - (n2 % 16)) % 16) 0#8).map b8)) rfl (by rw [List.map_replicate]) ?_
    refine T_oldb 0 (zs := ((List.replicate ((16 - (n2 % 16)) % 16) 0#8).map b8)) 0 1 ((16 - (n2 % 16)) % 16) ((16 - (n2 % 16)) % 16) rfl (by simp) (by rw [List.drop_zero, List.take_of_length_le (by simp)]) (Nat.le_refl _) oM ?_
    refine T_tord 0 rfl ?_
    refine T_as 0 _ (.rd (some ⟨g22, 0, none⟩) 1 ((16 - (n2 % 16)) % 16) ((16 - (n2 % 16)) % 16) ((pdc aad cs 3).map b8)) rfl (by rw [pdc3 aad cs n2 h2]) ?_
    refine LI_op rfl (op_yield (k := 3) ((some ⟨g22, 0, none⟩ : Option Addr), ((16 - (n2 % 16)) % 16 : Nat), ((16 - (n2 % 16)) % 16 : Nat)) hy sd hsJ hsX 1 rfl [0] rfl rfl rfl rfl rfl rfl rfl rfl rfl (fun _ => trivial) (fun O23 R24 => ?_) (fun O25 R26 => ?_))
    ·refine LI_opP hF rfl rfl (op_pr (pr_un (v := .bool false) rfl rfl rfl) rfl rfl ?_)
     refine LI_opP hF rfl rfl (op_pr (pr_pick_f rfl rfl rfl) rfl rfl ?_)
     refine LI_nil ?_
     refine T_cond_f rfl ?_
     refine T_skip ?_
     refine lR ?_
     refine lO (pr_add (na_i64 (a := 1) (b := 1) sd) rfl rfl rfl) ?_
     refine lM ?_
     refine L_nil ?_
     refine T_round ?_
     refine lT ?_
     refine lO (pr_cmp (bo := .lss) (nc_lt (a := 2) (b := 2)) rfl rfl rfl rfl) ?_
     refine L_nil ?_
     refine T_seq ?_
     refine T_cond_f rfl ?_
     refine T_exit rfl ?_
     refine T_regI ?_
     refine LI_opP hF rfl rfl (op_pr (pr_move rfl rfl) rfl rfl ?_)
     refine LI_opP hF rfl rfl (op_pr (pr_move rfl rfl) rfl rfl ?_)
     refine T_old 3 rfl ?_
     refine T_tord 0 rfl ?_
     refine T_as 0 _ (.rd B16 1 ((0 + 8) + 8) d17 ((pdc aad cs 4).map b8)) rfl (by rw [pdc4 aad cs n1 n2 h1 h2]) ?_
     refine LI_op rfl (op_yield (k := 4) ((B16 : Option Addr), ((0 + 8) + 8 : Nat), (d17 : Nat)) hy sd hsJ hsX 1 rfl [0] rfl rfl rfl rfl rfl rfl rfl rfl rfl (fun _ => trivial) (fun O27 R28 => ?_) (fun O29 R30 => ?_))
     ·refine LI_nil ?_
      exact T_finJ rfl rfl 0 rfl
     refine LI_nil ?_
     exact T_finX rfl rfl 0 rfl
    refine LI_opP hF rfl rfl (op_pr (pr_un (v := .bool true) rfl rfl rfl) rfl rfl ?_)
    refine LI_opP hF rfl rfl (op_pr (pr_pick_f rfl rfl rfl) rfl rfl ?_)
    refine LI_nil ?_
    refine T_cond_t rfl ?_
    refine T_ret ?_
    exact T_finX rfl rfl 0 rfl
   refine LI_opP hF rfl rfl (op_pr (pr_un (v := .bool true) rfl rfl rfl) rfl rfl ?_)
   refine LI_opP hF rfl rfl (op_pr (pr_move rfl rfl) rfl rfl ?_)
   refine LI_skip hF rfl rfl rfl ?_
   refine LI_skip hF rfl rfl rfl ?_
   refine LI_skip hF rfl rfl rfl ?_
   refine LI_skip hF rfl rfl rfl ?_
   refine LI_skip hF rfl rfl rfl ?_
   refine LI_skip hF rfl rfl rfl ?_
   refine LI_skip hF rfl rfl rfl ?_
   refine LI_skip hF rfl rfl rfl ?_
   refine LI_skip hF rfl rfl rfl ?_
   refine LI_opP hF rfl rfl (op_pr (pr_pick_t rfl rfl rfl) rfl rfl ?_)
   refine LI_nil ?_
   refine T_cond_t rfl ?_
   refine T_ret ?_
   exact T_finX rfl rfl 0 rfl
  refine LI_opP hF rfl rfl (op_pr (pr_un (v := .bool true) rfl rfl rfl) rfl rfl ?_)
  refine LI_opP hF rfl rfl (op_pr (pr_pick_f rfl rfl rfl) rfl rfl ?_)
  refine LI_nil ?_
  refine T_cond_t rfl ?_
  refine T_ret ?_
  exact T_finX rfl rfl 0 rfl
 refine LI_opP hF rfl rfl (op_pr (pr_un (v := .bool true) rfl rfl rfl) rfl rfl ?_)
 refine LI_opP hF rfl rfl (op_pr (pr_move rfl rfl) rfl rfl ?_)
 refine LI_skip hF rfl rfl rfl ?_
 refine LI_skip hF rfl rfl rfl ?_
 refine LI_skip hF rfl rfl rfl ?_
 refine LI_skip hF rfl rfl rfl ?_
 refine LI_skip hF rfl rfl rfl ?_
 refine LI_skip hF rfl rfl rfl ?_
 refine LI_skip hF rfl rfl rfl ?_
 refine LI_skip hF rfl rfl rfl ?_
 refine LI_skip hF rfl rfl rfl ?_
 refine LI_opP hF rfl rfl (op_pr (pr_pick_t rfl rfl rfl) rfl rfl ?_)
 refine LI_nil ?_
 refine T_cond_t rfl ?_
 refine T_ret ?_
 exact T_finX rfl rfl 0 rfl
set_option maxHeartbeats 4000000 in
theorem padded_f (A : Option Addr) (n : Nat) (c : Nat) (w : World) (hO : HOK [] w)  : Calls Tryz.prog 56 [(.slice A n c)].toArray w (Ret (T := Nat) [] w (fun g1 => True) (fun g1 => (.func (.func 76) #[] [(.pointer (some ⟨g1, 0, none⟩))].toArray)) (fun g1 => [.old (some ⟨g1, 0, none⟩) 1 1 1 [(.slice A n c)]])) := by
 refine enter (c := _) Tryz.func56 rfl [] _ [] (by rw [Tryz.ntmps56]; rfl) (own_rds hO rfl) ?_
 rw [Tryz.ntmps56]
 refine lE [(0, (.slice A n c))] ?_
 refine lH [] [] ?_
 refine lT ?_
 refine L_op rfl (op_box (zs := [(.slice A n c)]) rfl rfl rfl rfl rfl (fun g1 => ?_))
 refine lS ?_
 refine lN ?_
 refine lO (pr_mkfn (us := []) (vs := [(.pointer (some ⟨g1, 0, none⟩))]) rfl rfl rfl) ?_
 refine lS ?_
 refine L_nil ?_
 refine T_ret ?_
 refine T_oldb 0 (zs := [(.slice A n c)]) 0 1 1 1 rfl rfl rfl sd sd ?_
 exact T_fin g1 qN (res1 rfl rfl) [0] ⟨by decide, rfl⟩ rfl
set_option maxRecDepth 100000 in
set_option maxHeartbeats 4000000 in
theorem atag_f (key : List (BitVec 8)) (nonce : List (BitVec 8)) (aad : List (BitVec 8)) (cs : List (BitVec 8)) (A1 : Option Addr) (n1 : Nat) (c1 : Nat) (A2 : Option Addr) (n2 : Nat) (c2 : Nat) (w : World) (hO : HOK [.rd A1 1 n1 c1 (aad.map b8), .rd A2 1 n2 c2 (cs.map b8)] w) (hk : key.length = 32) (hn : nonce.length = 12) (h1 : aad.length = n1) (h2 : cs.length = n2) (h3 : n1 ≤ 100000000) (h4 : n2 ≤ 100000000) : Calls Tryz.prog 36 [(.agg (key.map b8).toArray), (.agg (nonce.map b8).toArray), (.slice A1 n1 c1), (.slice A2 n2 c2)].toArray w (Ret (T := Unit) [] w (fun _ => True) (fun _ => (.agg ((atag key nonce aad cs).map b8).toArray)) (fun _ => [])) := by
 have hbl := cblock_len key 0#32 nonce
 have hal := atext_le aad cs
 have htl := atag_len key nonce aad cs
 have h32 : (List.take 32 (cblock key 0#32 nonce)).length = 32 := by rw [List.length_take, hbl]; rfl
 have hF : Wid Fence.wide := wid_wide
 refine enter_m (c := _) Tryz.func36 rfl [] _ [.rd A1 1 n1 c1 (aad.map b8), .rd A2 1 n2 c2 (cs.map b8)] (by rw [Tryz.ntmps36]; rfl) (own_rds hO rfl) ?_
 rw [Tryz.ntmps36]
 refine lE [(0, (.agg (key.map b8).toArray)), (1, (.agg (nonce.map b8).toArray)), (2, (.slice A1 n1 c1)), (3, (.slice A2 n2 c2))] ?_
 refine lH [0, 1] [.rd A1 1 n1 c1 (aad.map b8), .rd A2 1 n2 c2 (cs.map b8)] ?_
 refine lT ?_
 refine L_op rfl (op_box (zs := (key.map b8)) rfl rfl rfl rfl rfl (fun g1 => ?_))
 refine L_op rfl (op_box (zs := (nonce.map b8)) rfl rfl rfl rfl rfl (fun g2 => ?_))
 refine L_op rfl (op_alloc (z := .agg ((List.replicate 16 0#8).map b8).toArray) (zs := ((List.replicate 16 0#8).map b8)) kr rfl rfl rfl rfl (fun g3 => ?_))
 refine lN ?_
 refine lQ (ld_agg (ds := (key.map b8)) 2 rfl agg_all Tryz.underlying22 rfl (fwz (n := 32) kr sd) rfl rfl) ?_
 refine lQ (ld_agg (ds := (nonce.map b8)) 1 rfl agg_all Tryz.underlying43 rfl (fwz (n := 12) kr sd) rfl rfl) ?_
 refine L_op rfl (op_cn (fun w hw => cblock_f key (0#32) nonce w (hok_nil w) aS aS) (enters_of Tryz.func55 kr rfl) rfl rfl rfl rfl rfl (fun t4 q5 => ?_))
 refine L_op rfl (op_alloc (z := .agg ((List.replicate 64 0#8).map b8).toArray) (zs := ((List.replicate 64 0#8).map b8)) kr rfl rfl rfl rfl (fun g6 => ?_))
 refine L_op rfl (op_sto (n := 64) (vs := ((cblock key (0#32) nonce).map b8)) 0 rfl rfl kr (all8_one _) kr sd rfl rfl rfl rfl ?_)
 refine lN ?_
 refine L_op rfl (op_alloc (z := (.slice none 0 0)) (zs := [(.slice none 0 0)]) kr rfl rfl rfl rfl (fun g7 => ?_))
 refine L_nil ?_
 refine T_seq ?_
 refine lT ?_
 refine lM ?_
 refine lM ?_
 refine L_op rfl (op_bslice (e := 27) (zs := [(.slice A1 n1 c1), (.slice A2 n2 c2)]) (qs := [(0, (.slice A1 n1 c1)), (1, (.slice A2 n2 c2))]) (fun _ => by kernel_rfl) rfl rfl rfl rfl (fun g8 => ?_))
 refine T_oldb 0 (zs := [(.slice A1 n1 c1), (.slice A2 n2 c2)]) 0 1 2 2 rfl rfl rfl (Nat.le_refl _) oM ?_
 refine T_tord 0 rfl ?_
 refine L_op rfl (op_cn (fun w hw => padded_f (some ⟨g8, 0, none⟩) 2 2 w (hok_nil w) ) (enters_of Tryz.func56 kr rfl) rfl rfl rfl rfl rfl (fun t9 q10 => ?_))
 obtain ⟨g1_11, eg1_11⟩ : ∃ x, x = t9 := ⟨_, rfl⟩
 subst eg1_11
 refine L_nil ?_
 refine T_block ?_
 refine T_tord 0 rfl ?_
 refine T_nilrow 27 1 ?_
 refine T_as 0 _ (.row (.slice none 0 0) 27 1 0 (([] : List Pt).map Pt.sl)) rfl rfl ?_
 refine T_allnil ?_
 refine T_range (Θ := Option Addr × Nat × Nat) (T := Option Addr × Nat × List Pt) (Tx := Unit) (cap := [(.pointer (some ⟨g1_11, 0, none⟩))]) (ps := [19]) (padded_seq aad cs A1 n1 c1 A2 n2 c2 (some ⟨g8, 0, none⟩) g1_11 sd sd sd sd) rfl (enters_of Tryz.func76 kr rfl) (fun k ⟨A1_, c1_, Q⟩ => Q.length = k ∧ catp Q = pdcat aad cs k) (fun k ⟨A1_, c1_, Q⟩ => [.all Q, .row (.slice A1_ k c1_) 27 1 k (Q.map Pt.sl), .rd (some ⟨g1_11, 0, none⟩) 1 1 1 [(.slice (some ⟨g8, 0, none⟩) 2 2)], .rd (some ⟨g8, 0, none⟩) 1 2 2 [(.slice A1 n1 c1), (.slice A2 n2 c2)], .blk g7 85 [(.slice A1_ k c1_)], .blk g6 83 ((cblock key (0#32) nonce).map b8), .blk g3 62 ((List.replicate 16 0#8).map b8), .blk g2 43 (nonce.map b8), .blk g1 22 (key.map b8), .rd A1 1 n1 c1 (aad.map b8), .rd A2 1 n2 c2 (cs.map b8)]) (fun _ => False) (fun _ => []) 0 (none, 0, []) (⟨rfl, by rw [pdcat_zero]; rfl⟩) [0, 1, 2, 3, 4, 5, 6, 7, 8, 9, 10] ⟨by decide, rfl⟩ [2, 3, 9, 10] rfl rfl (fun _ _ => rfl) (fun _ => rfl) (fun _ _ => rfl) (fun _ _ => rfl) rfl (fun _ => trivial) ?_ ?_ ?_
 ·intro C2 w2 lo2 rs2 l D m k t th rc hrec hk hp
  obtain ⟨A1_, c1_, Q⟩ := t
  obtain ⟨B, m, c⟩ := th
  have hp : Q.length = k ∧ catp Q = pdcat aad cs k := hp
  have hk : k < 5 := hk
  have hk5 : k ≤ 4 := by omega
  have hF : Wid (Fence.wide.inRound l) := wid_round l
  refine lE [(10, (.pointer (some ⟨g7, 0, none⟩))), (19, (.slice B m c))] ?_
  refine lH [0, 1, 2, 3, 4, 5, 6, 7, 8, 9, 10, 11, 12, 13] [.rd B 1 m c ((pdc aad cs k).map b8), .obj l (.loop rc), .obj D (.deferred (some [])), .all Q, .row (.slice A1_ k c1_) 27 1 k (Q.map Pt.sl), .rd (some ⟨g1_11, 0, none⟩) 1 1 1 [(.slice (some ⟨g8, 0, none⟩) 2 2)], .rd (some ⟨g8, 0, none⟩) 1 2 2 [(.slice A1 n1 c1), (.slice A2 n2 c2)], .blk g7 85 [(.slice A1_ k c1_)], .blk g6 83 ((cblock key (0#32) nonce).map b8), .blk g3 62 ((List.replicate 16 0#8).map b8), .blk g2 43 (nonce.map b8), .blk g1 22 (key.map b8), .rd A1 1 n1 c1 (aad.map b8), .rd A2 1 n2 c2 (cs.map b8)] ?_
  refine lR ?_
  refine lS ?_
  refine L_nil ?_
  refine T_begun 1 rfl hrec ?_
  refine T_block ?_
  refine lR ?_
  refine lQ (ld_blk 7 rfl rfl Tryz.underlying85 rfl rfl rfl) ?_
  refine lM ?_
  refine L_op rfl (op_bslice (e := 27) (zs := [(.slice B m c)]) (qs := [(0, (.slice B m c))]) (fun _ => by kernel_rfl) rfl rfl rfl rfl (fun g12 => ?_))
  refine L_op rfl (op_append (z := (.slice none 0 0)) (size := 1) (bytes := 24) 5 rfl Tryz.underlying85 kr kr (by decide) (src_full (z := 1) 0 rfl rfl sd sd) (by simp [Value.oneCell']) sd sd rfl rfl rfl rfl rfl (fun A13 C14 => ?_))
  refine T_as 0 _ (.row (.slice A13 (k + 1) C14) 27 1 (k + 1) ((Q ++ [(Pt.mk B m c (pdc aad cs k))]).map Pt.sl)) rfl (by simp only [List.map_append]; rfl) ?_
  refine L_op rfl (op_store (vs := [(.slice A13 (k + 1) C14)]) (cs' := [(.slice A13 (k + 1) C14)]) 8 rfl rfl kr (one_one rfl) (by simp) rfl rfl rfl rfl rfl ?_)
  refine L_nil ?_
  refine T_alladd 6 4 rfl rfl ?_
  exact T_on (A13, C14, (Q ++ [(Pt.mk B m c (pdc aad cs k))])) (⟨by simp [hp.1], pd_next hp.2⟩) [4, 6, 0, 2, 8, 9, 1, 10, 11, 12, 13, 14, 15] ⟨by decide, rfl⟩
 ·intro D t hp
  obtain ⟨A1_, c1_, Q⟩ := t
  have hp : Q.length = 5 ∧ catp Q = pdcat aad cs 5 := hp
  have hcq : catp Q = atext aad cs := by rw [hp.2, pdcat_all]
  refine lE [(8, (.pointer (some ⟨g3, 0, none⟩))), (9, (.pointer (some ⟨g6, 0, none⟩))), (10, (.pointer (some ⟨g7, 0, none⟩)))] ?_
  refine lH [0, 1, 2, 3, 4, 5, 6, 7, 8, 9, 10, 11] [.obj D (.deferred (some [])), .all Q, .row (.slice A1_ 5 c1_) 27 1 5 (Q.map Pt.sl), .rd (some ⟨g1_11, 0, none⟩) 1 1 1 [(.slice (some ⟨g8, 0, none⟩) 2 2)], .rd (some ⟨g8, 0, none⟩) 1 2 2 [(.slice A1 n1 c1), (.slice A2 n2 c2)], .blk g7 85 [(.slice A1_ 5 c1_)], .blk g6 83 ((cblock key (0#32) nonce).map b8), .blk g3 62 ((List.replicate 16 0#8).map b8), .blk g2 43 (nonce.map b8), .blk g1 22 (key.map b8), .rd A1 1 n1 c1 (aad.map b8), .rd A2 1 n2 c2 (cs.map b8)] ?_
  refine T_seq ?_
  refine T_regD [.obj D (.deferred (some [])), .all Q, .row (.slice A1_ 5 c1_) 27 1 5 (Q.map Pt.sl), .rd (some ⟨g1_11, 0, none⟩) 1 1 1 [(.slice (some ⟨g8, 0, none⟩) 2 2)], .rd (some ⟨g8, 0, none⟩) 1 2 2 [(.slice A1 n1 c1), (.slice A2 n2 c2)], .blk g7 85 [(.slice A1_ 5 c1_)], .blk g6 83 ((cblock key (0#32) nonce).map b8), .blk g3 62 ((List.replicate 16 0#8).map b8), .blk g2 43 (nonce.map b8), .blk g1 22 (key.map b8), .rd A1 1 n1 c1 (aad.map b8), .rd A2 1 n2 c2 (cs.map b8)] 5 6 #[false, false, false, false, false, false] hF kr kr ?_
  refine D_pure (i := 0) [0, 1, 2, 3, 4, 5, 6, 7, 8, 9, 10, 11] rfl kr rfl (pr_sla (l := 0) (u := 32) (m := 0) sd sd sd rfl Tryz.underlying83 (z := 1) kr rfl rfl rfl ⟨_, rfl⟩) (.inr rfl) rfl rfl ?_
  refine D_pure (i := 1) [0, 1, 2, 3, 4, 5, 6, 7, 8, 9, 10, 11] rfl kr rfl (pr_s2a sd Tryz.underlying22 rfl rfl) (.inr rfl) rfl rfl ?_
  refine D_take (i := 2) [0, 1, 2, 3, 4, 5, 6, 7, 8, 9, 10, 11] rfl kr rfl (ld_agg (ds := ((List.take 32 (cblock key (0#32) nonce)).map b8)) 6 rfl (by simp [List.map_take, List.map_drop]) Tryz.underlying22 rfl (fwz (n := 32) kr sd) rfl rfl) rfl rfl rfl ?_
  refine D_take (i := 3) [0, 1, 2, 3, 4, 5, 6, 7, 8, 9, 10, 11] rfl kr rfl (ld_blk 5 rfl rfl Tryz.underlying85 rfl rfl rfl) rfl rfl rfl ?_
  refine D_one 4 _ rfl kr rfl (op_cn (fun w hw => ptag_f (List.take 32 (cblock key (0#32) nonce)) Q A1_ 5 c1_ w (hok_cons ((src_row 2 rfl) w hw) (hok_cons (hw _ (List.mem_of_getElem? (i := 1) rfl)) (hok_nil w))) sd hp.1 oM (by rw [hcq]; omega)) (enters_of Tryz.func57 kr rfl) rfl rfl rfl rfl rfl (fun t15 q16 => ?_))
  refine T_slot 28 _ (.agg ((atag key nonce aad cs).map b8).toArray) rfl (by rw [hcq, atag_def]) ?_
  refine D_on [0, 1, 2, 3, 4, 5, 6, 7, 8, 9, 10, 11] rfl ?_
  refine D_one 5 _ rfl kr rfl (op_sto (n := 16) (vs := ((atag key nonce aad cs).map b8)) 7 rfl rfl kr (all8_one _) kr sd rfl rfl rfl rfl ?_)
  refine D_past kr ?_
  refine D_done kr ?_
  refine T_ret ?_
  exact T_finM 1 rfl () qN (resb 0 rfl rfl rfl Tryz.underlying62 rfl (fwz (n := 16) kr sd)) [] ⟨by decide, rfl⟩ rfl
 exact fun D t hq => hq.elim
end Go.Proofs.YtlplpmkdebemnaaGreat
namespace Go.Proofs.YtlplpmkdebemnaaGreat
set_option maxRecDepth 100000
open Go.RowKit Bv Fw
theorem z16_len (xs : List (BitVec 8)) (n : Nat) (h : xs.length = n) : (z16 xs).length = (16 - n % 16) % 16 := by rw [← z16_def xs n h, List.length_replicate]
theorem padk (n k : Nat) (h : k ≤ (16 - n % 16) % 16) (h2 : (n + k) % 16 = 0) : k = (16 - n % 16) % 16 := by omega
theorem padk_lt (n k : Nat) (h : k ≤ (16 - n % 16) % 16) (h2 : ¬ (n + k) % 16 = 0) : k < (16 - n % 16) % 16 := by omega
theorem lowb_succ (v : BitVec 64) (k : Nat) : lowb v (k + 1) = lowb v k ++ [(v >>> (8 * k)).setWidth 8] := rfl
theorem lens8_of (a c : List (BitVec 8)) (n m : Nat) (h : a.length = n) (h2 : c.length = m) (x : List (BitVec 8)) : x ++ lowb (BitVec.ofNat 64 n) 8 ++ lowb (BitVec.ofNat 64 m) 8 = x ++ lens8 a c := by subst h; subst h2; unfold lens8; rw [List.append_assoc]
set_option maxHeartbeats 4000000 in
theorem eight_f (n : Nat) (w : World) (hO : HOK [] w) (hn : n ≤ 100000000) : Calls Tryz.prog 61 [(.int .i64 ((n : Nat) : Int))].toArray w (Ret (T := Option Addr × Nat) [] w (fun ⟨B, d⟩ => True) (fun ⟨B, d⟩ => (.slice B 8 d)) (fun ⟨B, d⟩ => [.row (.slice B 8 d) 5 1 8 ((lowb (BitVec.ofNat 64 n) 8).map b8)])) := by
 refine enter (c := _) Tryz.func61 rfl [] _ [] (by rw [Tryz.ntmps61]; rfl) (own_rds hO rfl) ?_
 rw [Tryz.ntmps61]
 refine lE [(0, (.int .i64 ((n : Nat) : Int)))] ?_
 refine lH [] [] ?_
 refine lT ?_
 refine lS ?_
 refine lN ?_
 refine lS ?_
 refine L_nil ?_
 refine T_seq ?_
 refine lT ?_
 refine lS ?_
 refine L_nil ?_
 refine T_block ?_
 refine T_nilrow 5 1 ?_
 refine T_as 0 _ (.row (.slice none 0 0) 5 1 0 ((lowb (BitVec.ofNat 64 n) 0).map b8)) rfl (rfl) ?_
 refine T_loop (T := Nat × Option Addr × Nat) (fun ⟨i, A1, c1⟩ => i ≤ 8) (fun ⟨i, A1, c1⟩ => [(0, (.int .i64 ((n : Nat) : Int))), (3, (.slice A1 i c1)), (4, (.int .i64 ((i : Nat) : Int)))]) (fun ⟨i, A1, c1⟩ => [.row (.slice A1 i c1) 5 1 i ((lowb (BitVec.ofNat 64 n) i).map b8)]) (fun ⟨i, A1, c1⟩ => 8 - i) (0, none, 0) pN (sc rfl (sc rfl (sc rfl sn))) [0] ⟨by decide, rfl⟩ ?_
 rintro ⟨i, A1, c1⟩ hp
 have hp : i ≤ 8 := hp
 refine lE [(0, (.int .i64 ((n : Nat) : Int))), (3, (.slice A1 i c1)), (4, (.int .i64 ((i : Nat) : Int)))] ?_
 refine lH [0] [.row (.slice A1 i c1) 5 1 i ((lowb (BitVec.ofNat 64 n) i).map b8)] ?_
 refine T_seq ?_
 refine lT ?_
 refine lM ?_
 refine lO (pr_cmp (bo := .lss) (nc_lt (a := i) (b := 8)) rfl rfl rfl rfl) ?_
 refine L_nil ?_
 refine T_cond (decide (i < 8)) rfl (fun hc_1 => ?_) (fun hc_1 => ?_)
 ·have hc_1 := of_decide_eq_true hc_1
  refine T_skip ?_
  refine T_seq ?_
  refine T_block ?_
  refine lR ?_
  refine lM ?_
  refine lM ?_
  refine lO (pr_cv (nw64 n) Tryz.underlying3 Tryz.underlying23 rfl rfl) ?_
  refine lM ?_
  refine lO (pr_mul (nm_i64 (a := 8) (b := i) sd) rfl rfl rfl) ?_
  refine lO (pr_cv (ni_u64 (a := 8 * i) sd) Tryz.underlying3 Tryz.underlying39 rfl rfl) ?_
  refine lO (pr_shift (sh_shr64 (BitVec.ofNat 64 n) _ (8 * i)) rfl rfl rfl rfl) ?_
  refine lO (pr_cv (cv64_8 _) Tryz.underlying23 Tryz.underlying5 rfl rfl) ?_
  refine L_op rfl (op_bslice (e := 5) (zs := [(b8 (((BitVec.ofNat 64 n) >>> (8 * i)).setWidth 8))]) (qs := [(0, (b8 (((BitVec.ofNat 64 n) >>> (8 * i)).setWidth 8)))]) (fun _ => by kernel_rfl) rfl rfl rfl rfl (fun g2 => ?_))
  refine L_op rfl (op_append (z := (b8 (0#8))) (size := 1) (bytes := 1) 1 rfl Tryz.underlying27 kr kr (by decide) (src_full (z := 1) 0 rfl rfl sd sd) (by simp [Value.oneCell']) sd sd rfl rfl rfl rfl rfl (fun A3 C4 => ?_))
  refine T_as 0 _ (.row (.slice A3 (i + 1) C4) 5 1 (i + 1) (((lowb (BitVec.ofNat 64 n) i) ++ [(((BitVec.ofNat 64 n) >>> (8 * i)).setWidth 8)]).map b8)) rfl (by congr 1; simp; done) ?_
  refine lS ?_
  refine L_nil ?_
  refine lR ?_
  refine lM ?_
  refine lO (pr_add (na_i64 (a := i) (b := 1) sd) rfl rfl rfl) ?_
  refine lS ?_
  refine L_nil ?_
  refine T_as 0 _ (.row (.slice A3 (i + 1) C4) 5 1 (i + 1) ((lowb (BitVec.ofNat 64 n) (i + 1)).map b8)) rfl (by rw [lowb_succ]) ?_
  exact T_again (i + 1, A3, C4) pN pN (sc rfl (sc rfl (sc rfl sn))) [0] ⟨by decide, rfl⟩
 have hc_1 := of_decide_eq_false hc_1
 refine T_exit rfl ?_
 obtain rfl : 8 = i := by omega
 refine lT ?_
 refine lM ?_
 refine lS ?_
 refine L_nil ?_
 refine T_ret ?_
 exact T_fin (A1, c1) qN (res1 rfl rfl) [0] ⟨by decide, rfl⟩ rfl
set_option maxHeartbeats 4000000 in
theorem rpadded_f (xs : List (BitVec 8)) (A : Option Addr) (n : Nat) (c : Nat) (w : World) (hO : HOK [.rd A 1 n c (xs.map b8)] w) (hx : xs.length = n) (hn : n ≤ 100000000) : Calls Tryz.prog 60 [(.slice A n c)].toArray w (Ret (T := Option Addr × Nat) [] w (fun ⟨B, d⟩ => True) (fun ⟨B, d⟩ => (.slice B (n + (16 - n % 16) % 16) d)) (fun ⟨B, d⟩ => [.row (.slice B (n + (16 - n % 16) % 16) d) 5 1 (n + (16 - n % 16) % 16) ((xs ++ z16 xs).map b8)])) := by
 refine enter (c := _) Tryz.func60 rfl [] _ [.rd A 1 n c (xs.map b8)] (by rw [Tryz.ntmps60]; rfl) (own_rds hO rfl) ?_
 rw [Tryz.ntmps60]
 refine lE [(0, (.slice A n c))] ?_
 refine lH [0] [.rd A 1 n c (xs.map b8)] ?_
 refine lT ?_
 refine lS ?_
 refine lN ?_
 refine lM ?_
 refine T_nilrow 5 1 ?_
 refine L_op rfl (op_append (z := (b8 (0#8))) (size := 1) (bytes := 1) 0 rfl Tryz.underlying27 kr kr (by decide) (src_rd 1 rfl) (all8_one _) sd sd rfl rfl rfl rfl rfl (fun A1 C2 => ?_))
 refine T_as 0 _ (.row (.slice A1 (0 + n) C2) 5 1 (0 + n) (xs.map b8)) rfl (by rfl) ?_
 refine lS ?_
 refine L_nil ?_
 refine T_seq ?_
 refine T_block ?_
 refine T_slot 3 (.slice A1 (0 + n) C2) (.slice A1 (n + 0) C2) rfl (by congr 1; omega) ?_
 refine T_as 0 _ (.row (.slice A1 (n + 0) C2) 5 1 (n + 0) ((xs ++ List.replicate 0 0#8).map b8)) rfl (by congr 1 <;> first | rfl | omega | (congr 1; omega) | simp) ?_
 refine T_loop (T := Nat × Option Addr × Nat) (fun ⟨k, A1, c1⟩ => k ≤ (16 - n % 16) % 16) (fun ⟨k, A1, c1⟩ => [(3, (.slice A1 (n + k) c1))]) (fun ⟨k, A1, c1⟩ => [.row (.slice A1 (n + k) c1) 5 1 (n + k) ((xs ++ List.replicate k 0#8).map b8), .rd A 1 n c (xs.map b8)]) (fun ⟨k, A1, c1⟩ => (16 - n % 16) % 16 - k) (0, A1, C2) pN (sc rfl sn) [0, 1] ⟨by decide, rfl⟩ ?_
 rintro ⟨k, A1, c1⟩ hp
 have hp : k ≤ (16 - n % 16) % 16 := hp
 refine lE [(3, (.slice A1 (n + k) c1))] ?_
 refine lH [0, 1] [.row (.slice A1 (n + k) c1) 5 1 (n + k) ((xs ++ List.replicate k 0#8).map b8), .rd A 1 n c (xs.map b8)] ?_
 refine T_seq ?_
 refine lT ?_
 refine lM ?_
 refine lO (pr_len_sl Tryz.underlying27 rfl rfl) ?_
 refine lO (pr_rem (a := n + k) (b := 16) sd rfl rfl rfl) ?_
 refine lO (pr_cmp (bo := .neq) (nc_ne (a := (n + k) % 16) (b := 0)) rfl rfl rfl rfl) ?_
 refine L_nil ?_
 refine T_cond ((n + k) % 16 != 0) rfl (fun hc_3 => ?_) (fun hc_3 => ?_)
 ·have hc_3 : ¬ (n + k) % 16 = 0 := by simpa using hc_3
  refine T_skip ?_
  refine T_block ?_
  refine lR ?_
  refine lM ?_
  refine L_op rfl (op_bslice (e := 5) (zs := [(b8 (0#8))]) (qs := [(0, (b8 (0#8)))]) (fun _ => by kernel_rfl) rfl rfl rfl rfl (fun g4 => ?_))
  refine L_op rfl (op_append (z := (b8 (0#8))) (size := 1) (bytes := 1) 1 rfl Tryz.underlying27 kr kr (by decide) (src_full (z := 1) 0 rfl rfl sd sd) (by simp [Value.oneCell']) sd sd rfl rfl rfl rfl rfl (fun A5 C6 => ?_))
  refine T_as 0 _ (.row (.slice A5 (n + k + 1) C6) 5 1 (n + k + 1) (((xs ++ List.replicate k 0#8) ++ [0#8]).map b8)) rfl (by congr 1; simp; done) ?_
  refine lS ?_
  refine L_nil ?_
  refine T_slot 3 (.slice A5 (n + k + 1) C6) (.slice A5 (n + (k + 1)) C6) rfl (by rfl) ?_
  refine T_as 0 _ (.row (.slice A5 (n + (k + 1)) C6) 5 1 (n + (k + 1)) ((xs ++ List.replicate (k + 1) 0#8).map b8)) rfl (by rw [List.replicate_succ', ← List.append_assoc]; rfl) ?_
  exact T_again (k + 1, A5, C6) (padk_lt n k hp aS) (by have := padk_lt n k hp aS; dsimp only; omega) (sc rfl sn) [0, 2] ⟨by decide, rfl⟩
 have hc_3 : (n + k) % 16 = 0 := by simpa using hc_3
 refine T_exit rfl ?_
 obtain rfl : ((16 - n % 16) % 16) = k := (padk n k hp aS).symm
 refine lT ?_
 refine lM ?_
 refine lS ?_
 refine L_nil ?_
 refine T_ret ?_
 refine T_slot 2 (.slice A1 (n + ((16 - n % 16) % 16)) c1) (.slice A1 (n + (16 - n % 16) % 16) c1) rfl (by rfl) ?_
 refine T_as 0 _ (.row (.slice A1 (n + (16 - n % 16) % 16) c1) 5 1 (n + (16 - n % 16) % 16) ((xs ++ z16 xs).map b8)) rfl (by rw [z16_def xs n hx]) ?_
 exact T_fin (A1, c1) qN (res1 rfl rfl) [0] ⟨by decide, rfl⟩ rfl
set_option maxRecDepth 100000 in
set_option maxHeartbeats 4000000 in
theorem ratag_f (key : List (BitVec 8)) (nonce : List (BitVec 8)) (aad : List (BitVec 8)) (cs : List (BitVec 8)) (A1 : Option Addr) (n1 : Nat) (c1 : Nat) (A2 : Option Addr) (n2 : Nat) (c2 : Nat) (w : World) (hO : HOK [.rd A1 1 n1 c1 (aad.map b8), .rd A2 1 n2 c2 (cs.map b8)] w) (hk : key.length = 32) (hn : nonce.length = 12) (h1 : aad.length = n1) (h2 : cs.length = n2) (h3 : n1 ≤ 100000000) (h4 : n2 ≤ 100000000) : Calls Tryz.prog 41 [(.agg (key.map b8).toArray), (.agg (nonce.map b8).toArray), (.slice A1 n1 c1), (.slice A2 n2 c2)].toArray w (Ret (T := Unit) [] w (fun _ => True) (fun _ => (.agg ((atag key nonce aad cs).map b8).toArray)) (fun _ => [])) := by
 have hbl := cblock_len key 0#32 nonce
 have hal := atext_le aad cs
 have htl := atag_len key nonce aad cs
 have h32 : (List.take 32 (cblock key 0#32 nonce)).length = 32 := by rw [List.length_take, hbl]; rfl
 have hz1 := z16_len aad n1 h1
 have hz2 := z16_len cs n2 h2
 have hb1 := lowb_len (BitVec.ofNat 64 n1) 8
 have hb2 := lowb_len (BitVec.ofNat 64 n2) 8
 have hF : Wid Fence.wide := wid_wide
 refine enter (c := _) Tryz.func41 rfl [] _ [.rd A1 1 n1 c1 (aad.map b8), .rd A2 1 n2 c2 (cs.map b8)] (by rw [Tryz.ntmps41]; rfl) (own_rds hO rfl) ?_
 rw [Tryz.ntmps41]
 refine lE [(0, (.agg (key.map b8).toArray)), (1, (.agg (nonce.map b8).toArray)), (2, (.slice A1 n1 c1)), (3, (.slice A2 n2 c2))] ?_
 refine lH [0, 1] [.rd A1 1 n1 c1 (aad.map b8), .rd A2 1 n2 c2 (cs.map b8)] ?_
 refine lT ?_
 refine L_op rfl (op_box (zs := (key.map b8)) rfl rfl rfl rfl rfl (fun g1 => ?_))
 refine L_op rfl (op_box (zs := (nonce.map b8)) rfl rfl rfl rfl rfl (fun g2 => ?_))
 refine L_op rfl (op_alloc (z := .agg ((List.replicate 16 0#8).map b8).toArray) (zs := ((List.replicate 16 0#8).map b8)) kr rfl rfl rfl rfl (fun g3 => ?_))
 refine lN ?_
 refine lQ (ld_agg (ds := (key.map b8)) 2 rfl agg_all Tryz.underlying22 rfl (fwz (n := 32) kr sd) rfl rfl) ?_
 refine lQ (ld_agg (ds := (nonce.map b8)) 1 rfl agg_all Tryz.underlying43 rfl (fwz (n := 12) kr sd) rfl rfl) ?_
 refine L_op rfl (op_cn (fun w hw => crblock_f key (0#32) nonce w (hok_nil w) aS aS) (enters_of Tryz.func59 kr rfl) rfl rfl rfl rfl rfl (fun t4 q5 => ?_))
 refine L_op rfl (op_alloc (z := .agg ((List.replicate 64 0#8).map b8).toArray) (zs := ((List.replicate 64 0#8).map b8)) kr rfl rfl rfl rfl (fun g6 => ?_))
 refine L_op rfl (op_sto (n := 64) (vs := ((cblock key (0#32) nonce).map b8)) 0 rfl rfl kr (all8_one _) kr sd rfl rfl rfl rfl ?_)
 refine lN ?_
 refine L_op rfl (op_alloc (z := .agg ((List.replicate 32 0#8).map b8).toArray) (zs := ((List.replicate 32 0#8).map b8)) kr rfl rfl rfl rfl (fun g7 => ?_))
 refine L_nil ?_
 refine T_seq ?_
 refine lT ?_
 refine lS ?_
 refine L_nil ?_
 refine T_block ?_
 refine T_as 0 _ (.blk g7 22 ((prez (List.take 32 (cblock key 0#32 nonce)) 32 0).map b8)) rfl (by rw [← prez_zero]) ?_
 refine T_loop (T := Nat) (fun i => i ≤ 32) (fun i => [(2, (.slice A1 n1 c1)), (3, (.slice A2 n2 c2)), (8, (.pointer (some ⟨g3, 0, none⟩))), (9, (.pointer (some ⟨g6, 0, none⟩))), (10, (.pointer (some ⟨g7, 0, none⟩))), (11, (.int .i64 ((i : Nat) : Int)))]) (fun i => [.blk g7 22 ((prez (List.take 32 (cblock key 0#32 nonce)) 32 i).map b8), .blk g6 83 ((cblock key (0#32) nonce).map b8), .blk g3 62 ((List.replicate 16 0#8).map b8), .blk g2 43 (nonce.map b8), .blk g1 22 (key.map b8), .rd A1 1 n1 c1 (aad.map b8), .rd A2 1 n2 c2 (cs.map b8)]) (fun i => 32 - i) 0 pN (sc rfl (sc rfl (sc rfl (sc rfl (sc rfl (sc rfl sn)))))) [0, 1, 2, 3, 4, 5, 6] ⟨by decide, rfl⟩ ?_
 rintro i hp
 have hp : i ≤ 32 := hp
 have hpz := prez_len (List.take 32 (cblock key 0#32 nonce)) 32 i h32 hp
 refine lE [(2, (.slice A1 n1 c1)), (3, (.slice A2 n2 c2)), (8, (.pointer (some ⟨g3, 0, none⟩))), (9, (.pointer (some ⟨g6, 0, none⟩))), (10, (.pointer (some ⟨g7, 0, none⟩))), (11, (.int .i64 ((i : Nat) : Int)))] ?_
 refine lH [0, 1, 2, 3, 4, 5, 6] [.blk g7 22 ((prez (List.take 32 (cblock key 0#32 nonce)) 32 i).map b8), .blk g6 83 ((cblock key (0#32) nonce).map b8), .blk g3 62 ((List.replicate 16 0#8).map b8), .blk g2 43 (nonce.map b8), .blk g1 22 (key.map b8), .rd A1 1 n1 c1 (aad.map b8), .rd A2 1 n2 c2 (cs.map b8)] ?_
 refine T_seq ?_
 refine lT ?_
 refine lM ?_
 refine lO (pr_cmp (bo := .lss) (nc_lt (a := i) (b := 32)) rfl rfl rfl rfl) ?_
 refine L_nil ?_
 refine T_cond (decide (i < 32)) rfl (fun hc_8 => ?_) (fun hc_8 => ?_)
 ·have hc_8 := of_decide_eq_true hc_8
  refine T_skip ?_
  refine T_seq ?_
  refine T_block ?_
  refine lR ?_
  refine lM ?_
  refine lM ?_
  refine lO (pr_ixa (j := i) (m' := i) sd oM Tryz.underlying83 (z := 1) kr rfl rfl rfl) ?_
  refine lQ (ld_blk 1 rfl (get8 sd) Tryz.underlying5 rfl rfl rfl) ?_
  refine lO (pr_ixa (j := i) (m' := i) sd oM Tryz.underlying22 (z := 1) kr rfl rfl rfl) ?_
  refine L_op rfl (op_store (vs := [(b8 (ath (cblock key (0#32) nonce) i))]) (cs' := ((List.set (prez (List.take 32 (cblock key 0#32 nonce)) 32 i) i (ath (cblock key (0#32) nonce) i)).map b8)) 0 rfl rfl kr (one_one rfl) (stl sd) (splice_map (f := b8) sd) rfl rfl rfl rfl ?_)
  refine L_nil ?_
  refine lR ?_
  refine lM ?_
  refine lO (pr_add (na_i64 (a := i) (b := 1) sd) rfl rfl rfl) ?_
  refine lS ?_
  refine L_nil ?_
  refine T_as 0 _ (.blk g7 22 ((prez (List.take 32 (cblock key 0#32 nonce)) 32 (i + 1)).map b8)) rfl (by rw [prez_set (List.take 32 (cblock key 0#32 nonce)) 32 i h32 oM _ (by rw [ath_take _ _ _ oM])]) ?_
  exact T_again (i + 1) pN pN (sc rfl (sc rfl (sc rfl (sc rfl (sc rfl (sc rfl sn)))))) [0, 1, 2, 3, 4, 5, 6] ⟨by decide, rfl⟩
 have hc_8 := of_decide_eq_false hc_8
 refine T_exit rfl ?_
 obtain rfl : 32 = i := by omega
 refine T_as 0 _ (.blk g7 22 ((List.take 32 (cblock key 0#32 nonce)).map b8)) rfl (by rw [prez_all _ _ h32]) ?_
 refine lT ?_
 refine lM ?_
 refine L_op rfl (op_cn (fun w hw => rpadded_f aad A1 n1 c1 w (hok_cons ((src_rd 5 rfl) w hw) (hok_nil w)) aS sd) (enters_of Tryz.func60 kr rfl) rfl rfl rfl rfl rfl (fun t9 q10 => ?_))
 obtain ⟨B11, d12⟩ := t9
 refine lM ?_
 refine L_op rfl (op_cn (fun w hw => rpadded_f cs A2 n2 c2 w (hok_cons ((src_rd 7 rfl) w hw) (hok_nil w)) aS sd) (enters_of Tryz.func60 kr rfl) rfl rfl rfl rfl rfl (fun t13 q14 => ?_))
 obtain ⟨B15, d16⟩ := t13
 refine L_op rfl (op_append (z := (b8 (0#8))) (size := 1) (bytes := 1) 1 rfl Tryz.underlying27 kr kr (by decide) (src_row 0 rfl) (all8_one _) sd sd rfl rfl rfl rfl rfl (fun A17 C18 => ?_))
 refine T_as 0 _ (.row (.slice A17 (n1 + (16 - n1 % 16) % 16 + (n2 + (16 - n2 % 16) % 16)) C18) 5 1 (n1 + (16 - n1 % 16) % 16 + (n2 + (16 - n2 % 16) % 16)) (((aad ++ z16 aad) ++ (cs ++ z16 cs)).map b8)) rfl (by congr 1; simp; done) ?_
 refine lS ?_
 refine lN ?_
 refine lM ?_
 refine lM ?_
 refine lO (pr_len_sl Tryz.underlying27 rfl rfl) ?_
 refine L_op rfl (op_cn (fun w hw => eight_f n1 w (hok_nil w) sd) (enters_of Tryz.func61 kr rfl) rfl rfl rfl rfl rfl (fun t19 q20 => ?_))
 obtain ⟨B21, d22⟩ := t19
 refine L_op rfl (op_append (z := (b8 (0#8))) (size := 1) (bytes := 1) 1 rfl Tryz.underlying27 kr kr (by decide) (src_row 0 rfl) (all8_one _) sd sd rfl rfl rfl rfl rfl (fun A23 C24 => ?_))
 refine T_as 0 _ (.row (.slice A23 (n1 + (16 - n1 % 16) % 16 + (n2 + (16 - n2 % 16) % 16) + 8) C24) 5 1 (n1 + (16 - n1 % 16) % 16 + (n2 + (16 - n2 % 16) % 16) + 8) ((((aad ++ z16 aad) ++ (cs ++ z16 cs)) ++ (lowb (BitVec.ofNat 64 n1) 8)).map b8)) rfl (by congr 1; simp; done) ?_
 refine lS ?_
 refine L_nil ?_
 refine T_seq ?_
 refine T_regD [.row (.slice A23 (n1 + (16 - n1 % 16) % 16 + (n2 + (16 - n2 % 16) % 16) + 8) C24) 5 1 (n1 + (16 - n1 % 16) % 16 + (n2 + (16 - n2 % 16) % 16) + 8) ((((aad ++ z16 aad) ++ (cs ++ z16 cs)) ++ (lowb (BitVec.ofNat 64 n1) 8)).map b8), .row (.slice B21 8 d22) 5 1 8 ((lowb (BitVec.ofNat 64 n1) 8).map b8), .row (.slice B15 (n2 + (16 - n2 % 16) % 16) d16) 5 1 (n2 + (16 - n2 % 16) % 16) ((cs ++ z16 cs).map b8), .blk g7 22 ((List.take 32 (cblock key 0#32 nonce)).map b8), .blk g6 83 ((cblock key (0#32) nonce).map b8), .blk g3 62 ((List.replicate 16 0#8).map b8), .blk g2 43 (nonce.map b8), .blk g1 22 (key.map b8), .rd A1 1 n1 c1 (aad.map b8), .rd A2 1 n2 c2 (cs.map b8)] 5 8 #[false, false, false, false, false, false, false, false] hF kr kr ?_
 refine D_pure (i := 1) [0, 1, 2, 3, 4, 5, 6, 7, 8, 9] rfl kr rfl (pr_move rfl rfl) (.inr rfl) rfl rfl ?_
 refine D_pure (i := 2) [0, 1, 2, 3, 4, 5, 6, 7, 8, 9] rfl kr rfl (pr_move rfl rfl) (.inr rfl) rfl rfl ?_
 refine D_pure (i := 3) [0, 1, 2, 3, 4, 5, 6, 7, 8, 9] rfl kr rfl (pr_len_sl Tryz.underlying27 rfl rfl) (.inr rfl) rfl rfl ?_
 refine D_join (T := Unit) (fun _ => True) (fun _ => [(8, (.pointer (some ⟨g3, 0, none⟩)))]) (fun _ => [.blk g3 62 ((atag key nonce aad cs).map b8), .row (.slice B21 8 d22) 5 1 8 ((lowb (BitVec.ofNat 64 n1) 8).map b8), .row (.slice B15 (n2 + (16 - n2 % 16) % 16) d16) 5 1 (n2 + (16 - n2 % 16) % 16) ((cs ++ z16 cs).map b8), .blk g7 22 ((List.take 32 (cblock key 0#32 nonce)).map b8), .blk g6 83 ((cblock key (0#32) nonce).map b8), .blk g2 43 (nonce.map b8), .blk g1 22 (key.map b8), .rd A1 1 n1 c1 (aad.map b8), .rd A2 1 n2 c2 (cs.map b8)]) ?_ ?_
 ·refine D_all [0, 4] kr (by simp) ⟨⟨_, rfl, rfl, ?_⟩, ⟨_, rfl, rfl, ?_⟩, trivial⟩
  ·refine id (op_ld (ld_agg (ds := ((List.take 32 (cblock key 0#32 nonce)).map b8)) 3 rfl agg_all Tryz.underlying22 rfl (fwz (n := 32) kr sd) rfl rfl) rfl rfl ?_)
   refine D_on [0, 1, 2, 3, 4, 5, 6, 7, 8, 9] rfl ?_
   refine D_one 4 _ rfl kr rfl (op_cn (fun w hw => eight_f n2 w (hok_nil w) sd) (enters_of Tryz.func61 kr rfl) rfl rfl rfl rfl rfl (fun t33 q34 => ?_))
   obtain ⟨B35, d36⟩ := t33
   refine D_on [1, 2, 3, 4, 5, 6, 7, 8, 9, 10] rfl ?_
   refine D_one 5 _ rfl kr rfl (op_append (z := (b8 (0#8))) (size := 1) (bytes := 1) 1 rfl Tryz.underlying27 kr kr (by decide) (src_row 0 rfl) (all8_one _) sd sd rfl rfl rfl rfl rfl (fun A37 C38 => ?_))
   refine T_as 0 _ (.row (.slice A37 (n1 + (16 - n1 % 16) % 16 + (n2 + (16 - n2 % 16) % 16) + 8 + 8) C38) 5 1 (n1 + (16 - n1 % 16) % 16 + (n2 + (16 - n2 % 16) % 16) + 8 + 8) (((((aad ++ z16 aad) ++ (cs ++ z16 cs)) ++ (lowb (BitVec.ofNat 64 n1) 8)) ++ (lowb (BitVec.ofNat 64 n2) 8)).map b8)) rfl (by congr 1; simp; done) ?_
   refine D_past kr ?_
   refine D_one 6 _ rfl kr rfl (op_cn (fun w hw => prtag_f (List.take 32 (cblock key 0#32 nonce)) ((((aad ++ z16 aad) ++ (cs ++ z16 cs)) ++ (lowb (BitVec.ofNat 64 n1) 8)) ++ (lowb (BitVec.ofNat 64 n2) 8)) A37 (n1 + (16 - n1 % 16) % 16 + (n2 + (16 - n2 % 16) % 16) + 8 + 8) C38 w (hok_cons ((src_row 0 rfl) w hw) (hok_nil w)) sd (by simp; omega) sd) (enters_of Tryz.func62 kr rfl) rfl rfl rfl rfl rfl (fun t39 q40 => ?_))
   refine T_slot 41 _ (.agg ((atag key nonce aad cs).map b8).toArray) rfl (by rw [lens8_of aad cs n1 n2 h1 h2, atext_def, atag_def]) ?_
   refine D_past kr ?_
   refine D_one 7 _ rfl kr rfl (op_sto (n := 16) (vs := ((atag key nonce aad cs).map b8)) 6 rfl rfl kr (all8_one _) kr sd rfl rfl rfl rfl ?_)
   refine D_past kr ?_
   refine D_done kr ?_
   exact T_meet () trivial (sc rfl sn) [0, 3, 4, 5, 6, 7, 8, 9, 10] ⟨by decide, rfl⟩
  refine id (op_cn (fun w hw => eight_f n2 w (hok_nil w) sd) (enters_of Tryz.func61 kr rfl) rfl rfl rfl rfl rfl (fun t41 q42 => ?_))
  obtain ⟨B43, d44⟩ := t41
  refine D_on [1, 2, 3, 4, 5, 6, 7, 8, 9, 10] rfl ?_
  refine D_all [0, 5] kr (by simp) ⟨⟨_, rfl, rfl, ?_⟩, ⟨_, rfl, rfl, ?_⟩, trivial⟩
  ·refine id (op_ld (ld_agg (ds := ((List.take 32 (cblock key 0#32 nonce)).map b8)) 4 rfl agg_all Tryz.underlying22 rfl (fwz (n := 32) kr sd) rfl rfl) rfl rfl ?_)
   refine D_on [1, 2, 3, 4, 5, 6, 7, 8, 9, 10] rfl ?_
   refine D_one 5 _ rfl kr rfl (op_append (z := (b8 (0#8))) (size := 1) (bytes := 1) 1 rfl Tryz.underlying27 kr kr (by decide) (src_row 0 rfl) (all8_one _) sd sd rfl rfl rfl rfl rfl (fun A45 C46 => ?_))
   refine T_as 0 _ (.row (.slice A45 (n1 + (16 - n1 % 16) % 16 + (n2 + (16 - n2 % 16) % 16) + 8 + 8) C46) 5 1 (n1 + (16 - n1 % 16) % 16 + (n2 + (16 - n2 % 16) % 16) + 8 + 8) (((((aad ++ z16 aad) ++ (cs ++ z16 cs)) ++ (lowb (BitVec.ofNat 64 n1) 8)) ++ (lowb (BitVec.ofNat 64 n2) 8)).map b8)) rfl (by congr 1; simp; done) ?_
   refine D_past kr ?_
   refine D_one 6 _ rfl kr rfl (op_cn (fun w hw => prtag_f (List.take 32 (cblock key 0#32 nonce)) ((((aad ++ z16 aad) ++ (cs ++ z16 cs)) ++ (lowb (BitVec.ofNat 64 n1) 8)) ++ (lowb (BitVec.ofNat 64 n2) 8)) A45 (n1 + (16 - n1 % 16) % 16 + (n2 + (16 - n2 % 16) % 16) + 8 + 8) C46 w (hok_cons ((src_row 0 rfl) w hw) (hok_nil w)) sd (by simp; omega) sd) (enters_of Tryz.func62 kr rfl) rfl rfl rfl rfl rfl (fun t47 q48 => ?_))
   refine T_slot 41 _ (.agg ((atag key nonce aad cs).map b8).toArray) rfl (by rw [lens8_of aad cs n1 n2 h1 h2, atext_def, atag_def]) ?_
   refine D_past kr ?_
   refine D_one 7 _ rfl kr rfl (op_sto (n := 16) (vs := ((atag key nonce aad cs).map b8)) 6 rfl rfl kr (all8_one _) kr sd rfl rfl rfl rfl ?_)
   refine D_past kr ?_
   refine D_done kr ?_
   exact T_meet () trivial (sc rfl sn) [0, 3, 4, 5, 6, 7, 8, 9, 10] ⟨by decide, rfl⟩
  refine id (op_append (z := (b8 (0#8))) (size := 1) (bytes := 1) 1 rfl Tryz.underlying27 kr kr (by decide) (src_row 0 rfl) (all8_one _) sd sd rfl rfl rfl rfl rfl (fun A49 C50 => ?_))
  refine T_as 0 _ (.row (.slice A49 (n1 + (16 - n1 % 16) % 16 + (n2 + (16 - n2 % 16) % 16) + 8 + 8) C50) 5 1 (n1 + (16 - n1 % 16) % 16 + (n2 + (16 - n2 % 16) % 16) + 8 + 8) (((((aad ++ z16 aad) ++ (cs ++ z16 cs)) ++ (lowb (BitVec.ofNat 64 n1) 8)) ++ (lowb (BitVec.ofNat 64 n2) 8)).map b8)) rfl (by congr 1; simp; done) ?_
  refine D_past kr ?_
  refine D_one 0 _ rfl kr rfl (op_ld (ld_agg (ds := ((List.take 32 (cblock key 0#32 nonce)).map b8)) 4 rfl agg_all Tryz.underlying22 rfl (fwz (n := 32) kr sd) rfl rfl) rfl rfl ?_)
  refine D_past kr ?_
  refine D_one 6 _ rfl kr rfl (op_cn (fun w hw => prtag_f (List.take 32 (cblock key 0#32 nonce)) ((((aad ++ z16 aad) ++ (cs ++ z16 cs)) ++ (lowb (BitVec.ofNat 64 n1) 8)) ++ (lowb (BitVec.ofNat 64 n2) 8)) A49 (n1 + (16 - n1 % 16) % 16 + (n2 + (16 - n2 % 16) % 16) + 8 + 8) C50 w (hok_cons ((src_row 0 rfl) w hw) (hok_nil w)) sd (by simp; omega) sd) (enters_of Tryz.func62 kr rfl) rfl rfl rfl rfl rfl (fun t51 q52 => ?_))
  refine T_slot 41 _ (.agg ((atag key nonce aad cs).map b8).toArray) rfl (by rw [lens8_of aad cs n1 n2 h1 h2, atext_def, atag_def]) ?_
  refine D_past kr ?_
  refine D_one 7 _ rfl kr rfl (op_sto (n := 16) (vs := ((atag key nonce aad cs).map b8)) 6 rfl rfl kr (all8_one _) kr sd rfl rfl rfl rfl ?_)
  refine D_past kr ?_
  refine D_done kr ?_
  exact T_meet () trivial (sc rfl sn) [0, 3, 4, 5, 6, 7, 8, 9, 10] ⟨by decide, rfl⟩
 rintro ⟨⟩ -
 refine lE [(8, (.pointer (some ⟨g3, 0, none⟩)))] ?_
 refine lH [0, 1, 2, 3, 4, 5, 6, 7, 8] [.blk g3 62 ((atag key nonce aad cs).map b8), .row (.slice B21 8 d22) 5 1 8 ((lowb (BitVec.ofNat 64 n1) 8).map b8), .row (.slice B15 (n2 + (16 - n2 % 16) % 16) d16) 5 1 (n2 + (16 - n2 % 16) % 16) ((cs ++ z16 cs).map b8), .blk g7 22 ((List.take 32 (cblock key 0#32 nonce)).map b8), .blk g6 83 ((cblock key (0#32) nonce).map b8), .blk g2 43 (nonce.map b8), .blk g1 22 (key.map b8), .rd A1 1 n1 c1 (aad.map b8), .rd A2 1 n2 c2 (cs.map b8)] ?_
 refine T_ret ?_
 exact T_fin () qN (resb 0 rfl rfl rfl Tryz.underlying62 rfl (fwz (n := 16) kr sd)) [] ⟨by decide, rfl⟩ rfl
set_option maxRecDepth 100000 in
set_option maxHeartbeats 4000000 in
theorem seal_f (key : List (BitVec 8)) (nonce : List (BitVec 8)) (aad : List (BitVec 8)) (cs : List (BitVec 8)) (A1 : Option Addr) (n1 : Nat) (c1 : Nat) (A2 : Option Addr) (n2 : Nat) (c2 : Nat) (w : World) (hO : HOK [.rd A1 1 n1 c1 (aad.map b8), .rd A2 1 n2 c2 (cs.map b8)] w) (hk : key.length = 32) (hn : nonce.length = 12) (h1 : aad.length = n1) (h2 : cs.length = n2) (h3 : n1 ≤ 65536) (h4 : n2 ≤ 65536) : Calls Tryz.prog 15 [(.agg (key.map b8).toArray), (.agg (nonce.map b8).toArray), (.slice A1 n1 c1), (.slice A2 n2 c2)].toArray w (Ret (T := Option Addr × Nat) [] w (fun ⟨B, d⟩ => True) (fun ⟨B, d⟩ => (.tuple [(.slice B (n2 + 16) d), (.int .i64 ((0 : Nat) : Int))].toArray)) (fun ⟨B, d⟩ => [.row (.slice B (n2 + 16) d) 5 1 (n2 + 16) ((aseal key nonce aad cs).map b8)])) := by
 have hcl := cxor_len key nonce 1#32 cs
 have hsl := aseal_len key nonce aad cs
 have htl := atag_len key nonce aad (cxor key nonce 1#32 cs)
 refine enter (c := _) Tryz.func15 rfl [] _ [.rd A1 1 n1 c1 (aad.map b8), .rd A2 1 n2 c2 (cs.map b8)] (by rw [Tryz.ntmps15]; rfl) (own_rds hO rfl) ?_
 rw [Tryz.ntmps15]
 refine lE [(0, (.agg (key.map b8).toArray)), (1, (.agg (nonce.map b8).toArray)), (2, (.slice A1 n1 c1)), (3, (.slice A2 n2 c2))] ?_
 refine lH [0, 1] [.rd A1 1 n1 c1 (aad.map b8), .rd A2 1 n2 c2 (cs.map b8)] ?_
 refine lT ?_
 refine L_op rfl (op_box (zs := (key.map b8)) rfl rfl rfl rfl rfl (fun g1 => ?_))
 refine L_op rfl (op_box (zs := (nonce.map b8)) rfl rfl rfl rfl rfl (fun g2 => ?_))
 refine lS ?_
 refine lS ?_
 refine L_nil ?_
 refine T_seq ?_
 refine lT ?_
 refine lM ?_
 refine lO (pr_len_sl Tryz.underlying27 rfl rfl) ?_
 refine lO (pr_cmp (bo := .gtr) (nc_lt (a := 65536) (b := n1)) rfl rfl rfl rfl) ?_
 refine lM ?_
 refine T_slot 15 (.bool (decide (65536 < n1))) (.bool false) rfl (congrArg _ (by simp; omega)) ?_
 refine lM ?_
 refine lO (pr_len_sl Tryz.underlying27 rfl rfl) ?_
 refine lO (pr_cmp (bo := .gtr) (nc_lt (a := 65536) (b := n2)) rfl rfl rfl rfl) ?_
 refine lO (pr_pick_f rfl rfl rfl) ?_
 refine L_nil ?_
 refine T_cond_no (t := decide (65536 < n2)) rfl (by simp; omega) ?_
 refine T_skip ?_
 refine lT ?_
 refine lQ (ld_agg (ds := (key.map b8)) 1 rfl agg_all Tryz.underlying22 rfl (fwz (n := 32) kr sd) rfl rfl) ?_
 refine lQ (ld_agg (ds := (nonce.map b8)) 0 rfl agg_all Tryz.underlying43 rfl (fwz (n := 12) kr sd) rfl rfl) ?_
 refine lM ?_
 refine L_op rfl (op_cn (fun w hw => xor_f key nonce (1#32) cs A2 n2 c2 w (hok_cons ((src_rd 3 rfl) w hw) (hok_nil w)) aS aS aS sd) (enters_of Tryz.func35 kr rfl) rfl rfl rfl rfl rfl (fun t4 q5 => ?_))
 obtain ⟨B6, d7⟩ := t4
 refine lS ?_
 refine lN ?_
 refine lQ (ld_agg (ds := (key.map b8)) 2 rfl agg_all Tryz.underlying22 rfl (fwz (n := 32) kr sd) rfl rfl) ?_
 refine lQ (ld_agg (ds := (nonce.map b8)) 1 rfl agg_all Tryz.underlying43 rfl (fwz (n := 12) kr sd) rfl rfl) ?_
 refine lM ?_
 refine lM ?_
 refine L_op rfl (op_cn (fun w hw => atag_f key nonce aad (cxor key nonce (1#32) cs) A1 n1 c1 B6 n2 d7 w (hok_cons ((src_rd 3 rfl) w hw) (hok_cons ((src_row 0 rfl) w hw) (hok_nil w))) aS aS aS sd sd sd) (enters_of Tryz.func36 kr rfl) rfl rfl rfl rfl rfl (fun t8 q9 => ?_))
 refine L_op rfl (op_alloc (z := .agg ((List.replicate 16 0#8).map b8).toArray) (zs := ((List.replicate 16 0#8).map b8)) kr rfl rfl rfl rfl (fun g10 => ?_))
 refine L_op rfl (op_sto (n := 16) (vs := ((atag key nonce aad (cxor key nonce (1#32) cs)).map b8)) 0 rfl rfl kr (all8_one _) kr sd rfl rfl rfl rfl ?_)
 refine lN ?_
 refine lM ?_
 refine lO (pr_sla (l := 0) (u := 16) (m := 0) sd sd sd rfl Tryz.underlying62 (z := 1) kr rfl rfl rfl rfl) ?_
 refine L_op rfl (op_append (z := (b8 (0#8))) (size := 1) (bytes := 1) 1 rfl Tryz.underlying27 kr kr (by decide) (src_full (z := 1) 0 rfl sd sd sd) (all8_one _) sd sd rfl rfl rfl rfl rfl (fun A11 C12 => ?_))
 refine T_as 0 _ (.row (.slice A11 (n2 + 16) C12) 5 1 (n2 + 16) (((cxor key nonce (1#32) cs) ++ (atag key nonce aad (cxor key nonce (1#32) cs))).map b8)) rfl (by congr 1; simp; done) ?_
 refine lS ?_
 refine lS ?_
 refine L_nil ?_
 refine T_ret ?_
 refine T_as 0 _ (.row (.slice A11 (n2 + 16) C12) 5 1 (n2 + 16) ((aseal key nonce aad cs).map b8)) rfl (by rw [aseal_def]) ?_
 exact T_fin (A11, C12) qN (res2 rfl rfl rfl) [0] ⟨by decide, rfl⟩ rfl
end Go.Proofs.YtlplpmkdebemnaaGreat
namespace Go.Proofs.YtlplpmkdebemnaaGreat
set_option maxRecDepth 100000
open Go.RowKit Bv Fw
set_option maxRecDepth 100000 in
set_option maxHeartbeats 4000000 in
theorem open_ok_f (key : List (BitVec 8)) (nonce : List (BitVec 8)) (aad : List (BitVec 8)) (cs : List (BitVec 8)) (A1 : Option Addr) (n1 : Nat) (c1 : Nat) (A2 : Option Addr) (n2 : Nat) (c2 : Nat) (w : World) (hO : HOK [.rd A1 1 n1 c1 (aad.map b8), .rd A2 1 n2 c2 (cs.map b8)] w) (hk : key.length = 32) (hn : nonce.length = 12) (h1 : aad.length = n1) (h2 : cs.length = n2) (h3 : n1 ≤ 65536) (h4 : 16 ≤ n2) (h5 : n2 ≤ 65552) (hg : agood key nonce aad cs) : Calls Tryz.prog 23 [(.agg (key.map b8).toArray), (.agg (nonce.map b8).toArray), (.slice A1 n1 c1), (.slice A2 n2 c2)].toArray w (Ret (T := Option Addr × Nat) [] w (fun ⟨B, d⟩ => True) (fun ⟨B, d⟩ => (.tuple [(.slice B (n2 - 16) d), (.int .i64 ((0 : Nat) : Int))].toArray)) (fun ⟨B, d⟩ => [.row (.slice B (n2 - 16) d) 5 1 (n2 - 16) ((aplain key nonce cs).map b8)])) := by
 have htl := atag_len key nonce aad (List.take (n2 - 16) cs)
 have hcl := cxor_len key nonce 1#32 (List.take (n2 - 16) cs)
 have hF : Wid Fence.wide := wid_wide
 refine enter (c := _) Tryz.func23 rfl [] _ [.rd A1 1 n1 c1 (aad.map b8), .rd A2 1 n2 c2 (cs.map b8)] (by rw [Tryz.ntmps23]; rfl) (own_rds hO rfl) ?_
 rw [Tryz.ntmps23]
 refine lE [(0, (.agg (key.map b8).toArray)), (1, (.agg (nonce.map b8).toArray)), (2, (.slice A1 n1 c1)), (3, (.slice A2 n2 c2))] ?_
 refine lH [0, 1] [.rd A1 1 n1 c1 (aad.map b8), .rd A2 1 n2 c2 (cs.map b8)] ?_
 refine lT ?_
 refine L_op rfl (op_box (zs := (key.map b8)) rfl rfl rfl rfl rfl (fun g1 => ?_))
 refine L_op rfl (op_box (zs := (nonce.map b8)) rfl rfl rfl rfl rfl (fun g2 => ?_))
 refine lS ?_
 refine lS ?_
 refine lN ?_
 refine lM ?_
 refine lO (pr_len_sl Tryz.underlying27 rfl rfl) ?_
 refine lO (pr_sub (ns_i64 (a := n2) (b := 16) sd sd) rfl rfl rfl) ?_
 refine lS ?_
 refine L_nil ?_
 refine T_seq ?_
 refine T_block ?_
 refine lT ?_
 refine lM ?_
 refine lO (pr_len_sl Tryz.underlying27 rfl rfl) ?_
 refine lO (pr_cmp (bo := .gtr) (nc_lt (a := 65536) (b := n1)) rfl rfl rfl rfl) ?_
 refine lM ?_
 refine T_slot 19 (.bool (decide (65536 < n1))) (.bool false) rfl (congrArg _ (by simp; omega)) ?_
 refine lM ?_
 refine lO (pr_cmp (bo := .gtr) (nc_lt (a := 65536) (b := n2 - 16)) rfl rfl rfl rfl) ?_
 refine lO (pr_pick_f rfl rfl rfl) ?_
 refine lS ?_
 refine L_nil ?_
 refine T_cond_no (t := decide (65536 < n2 - 16)) rfl (by simp; omega) ?_
 refine lT ?_
 refine lM ?_
 refine lO (pr_cmp (bo := .lss) (nc_lt (a := n2 - 16) (b := 0)) rfl rfl rfl rfl) ?_
 refine lS ?_
 refine L_nil ?_
 refine T_cond_f rfl ?_
 refine T_skip ?_
 refine T_seq ?_
 refine T_seq ?_
 refine T_regD [.blk g2 43 (nonce.map b8), .blk g1 22 (key.map b8), .rd A1 1 n1 c1 (aad.map b8), .rd A2 1 n2 c2 (cs.map b8)] 9 9 #[false, false, false, false, false, false, false, false, false] hF kr kr ?_
 refine D_pure (i := 2) [0, 1, 2, 3] rfl kr rfl (pr_move rfl rfl) (.inr rfl) rfl rfl ?_
 refine D_pure (i := 3) [0, 1, 2, 3] rfl kr rfl (pr_move rfl rfl) (.inr rfl) rfl rfl ?_
 refine D_pure (i := 4) [0, 1, 2, 3] rfl kr rfl (pr_move rfl rfl) (.inr rfl) rfl rfl ?_
 refine D_take (i := 0) [0, 1, 2, 3] rfl kr rfl (ld_agg (ds := (key.map b8)) 1 rfl agg_all Tryz.underlying22 rfl (fwz (n := 32) kr sd) rfl rfl) rfl rfl rfl ?_
 refine D_take (i := 1) [0, 1, 2, 3] rfl kr rfl (ld_agg (ds := (nonce.map b8)) 0 rfl agg_all Tryz.underlying43 rfl (fwz (n := 12) kr sd) rfl rfl) rfl rfl rfl ?_
 refine D_join (T := Nat) (fun _ => True) (fun g7 => [(3, (.slice A2 n2 c2)), (4, (.pointer (some ⟨g1, 0, none⟩))), (5, (.pointer (some ⟨g2, 0, none⟩))), (10, (.int .i64 ((n2 - 16 : Nat) : Int))), (11, (.pointer (some ⟨g7, 0, none⟩)))]) (fun g7 => [.blk g7 62 ((atag key nonce aad (List.take (n2 - 16) cs)).map b8), .blk g2 43 (nonce.map b8), .blk g1 22 (key.map b8), .rd A1 1 n1 c1 (aad.map b8), .rd A2 1 n2 c2 (cs.map b8)]) ?_ ?_
 ·refine D_all [5, 7] kr (by simp) ⟨⟨_, rfl, rfl, ?_⟩, ⟨_, rfl, rfl, ?_⟩, trivial⟩
  ·refine id (op_slice_rd (l := 0) (u := n2 - 16) 3 rfl sd sd Tryz.underlying27 kr rfl rfl rfl ⟨_, rfl⟩ rfl rfl (fun B8 => ?_))
   refine T_as 0 _ (.rd B8 1 (n2 - 16) c2 ((List.take (n2 - 16) cs).map b8)) rfl (by congr 1; simp [List.map_take, List.map_drop] <;> omega) ?_
   refine T_slot 31 _ (.slice B8 (n2 - 16) c2) rfl (by congr 1) ?_
   refine D_on [1, 2, 3, 4] rfl ?_
   refine D_all [6, 7] kr (by simp) ⟨⟨_, rfl, rfl, ?_⟩, ⟨_, rfl, rfl, ?_⟩, trivial⟩
   ·refine id (op_cn (fun w hw => atag_f key nonce aad (List.take (n2 - 16) cs) A1 n1 c1 B8 (n2 - 16) c2 w (hok_cons ((src_rd 3 rfl) w hw) (hok_cons ((src_rd 0 rfl) w hw) (hok_nil w))) aS aS aS sd sd sd) (enters_of Tryz.func36 kr rfl) rfl rfl rfl rfl rfl (fun t9 q10 => ?_))
    refine D_on [1, 2, 3, 4] rfl ?_
    refine D_one 7 _ rfl kr rfl (op_alloc (z := .agg ((List.replicate 16 0#8).map b8).toArray) (zs := ((List.replicate 16 0#8).map b8)) kr rfl rfl rfl rfl (fun g11 => ?_))
    refine D_on [2, 3, 4, 5] rfl ?_
    refine D_one 8 _ rfl kr rfl (op_sto (n := 16) (vs := ((atag key nonce aad (List.take (n2 - 16) cs)).map b8)) 0 rfl rfl kr (all8_one _) kr sd rfl rfl rfl rfl ?_)
    refine D_on [2, 3, 4, 5] rfl ?_
    refine D_done kr ?_
    exact T_meet g11 trivial (sc rfl (sc rfl (sc rfl (sc rfl (sc rfl sn))))) [0, 2, 3, 4, 5] ⟨by decide, rfl⟩
   refine id (op_alloc (z := .agg ((List.replicate 16 0#8).map b8).toArray) (zs := ((List.replicate 16 0#8).map b8)) kr rfl rfl rfl rfl (fun g12 => ?_))
   refine D_on [2, 3, 4, 5] rfl ?_
   refine D_one 6 _ rfl kr rfl (op_cn (fun w hw => atag_f key nonce aad (List.take (n2 - 16) cs) A1 n1 c1 B8 (n2 - 16) c2 w (hok_cons ((src_rd 4 rfl) w hw) (hok_cons ((src_rd 1 rfl) w hw) (hok_nil w))) aS aS aS sd sd sd) (enters_of Tryz.func36 kr rfl) rfl rfl rfl rfl rfl (fun t13 q14 => ?_))
   refine D_on [2, 3, 4, 5] rfl ?_
   refine D_one 8 _ rfl kr rfl (op_sto (n := 16) (vs := ((atag key nonce aad (List.take (n2 - 16) cs)).map b8)) 0 rfl rfl kr (all8_one _) kr sd rfl rfl rfl rfl ?_)
   refine D_on [2, 3, 4, 5] rfl ?_
   refine D_done kr ?_
   exact T_meet g12 trivial (sc rfl (sc rfl (sc rfl (sc rfl (sc rfl sn))))) [0, 2, 3, 4, 5] ⟨by decide, rfl⟩
  refine id (op_alloc (z := .agg ((List.replicate 16 0#8).map b8).toArray) (zs := ((List.replicate 16 0#8).map b8)) kr rfl rfl rfl rfl (fun g15 => ?_))
  refine D_on [1, 2, 3, 4] rfl ?_
  refine D_one 5 _ rfl kr rfl (op_slice_rd (l := 0) (u := n2 - 16) 4 rfl sd sd Tryz.underlying27 kr rfl rfl rfl ⟨_, rfl⟩ rfl rfl (fun B16 => ?_))
  refine T_as 0 _ (.rd B16 1 (n2 - 16) c2 ((List.take (n2 - 16) cs).map b8)) rfl (by congr 1; simp [List.map_take, List.map_drop] <;> omega) ?_
  refine T_slot 31 _ (.slice B16 (n2 - 16) c2) rfl (by congr 1) ?_
  refine D_on [2, 3, 4, 5] rfl ?_
  refine D_one 6 _ rfl kr rfl (op_cn (fun w hw => atag_f key nonce aad (List.take (n2 - 16) cs) A1 n1 c1 B16 (n2 - 16) c2 w (hok_cons ((src_rd 4 rfl) w hw) (hok_cons ((src_rd 0 rfl) w hw) (hok_nil w))) aS aS aS sd sd sd) (enters_of Tryz.func36 kr rfl) rfl rfl rfl rfl rfl (fun t17 q18 => ?_))
  refine D_on [2, 3, 4, 5] rfl ?_
  refine D_one 8 _ rfl kr rfl (op_sto (n := 16) (vs := ((atag key nonce aad (List.take (n2 - 16) cs)).map b8)) 1 rfl rfl kr (all8_one _) kr sd rfl rfl rfl rfl ?_)
  refine D_on [2, 3, 4, 5] rfl ?_
  refine D_done kr ?_
  exact T_meet g15 trivial (sc rfl (sc rfl (sc rfl (sc rfl (sc rfl sn))))) [0, 2, 3, 4, 5] ⟨by decide, rfl⟩
 rintro g7 -
 refine lE [(3, (.slice A2 n2 c2)), (4, (.pointer (some ⟨g1, 0, none⟩))), (5, (.pointer (some ⟨g2, 0, none⟩))), (10, (.int .i64 ((n2 - 16 : Nat) : Int))), (11, (.pointer (some ⟨g7, 0, none⟩)))] ?_
 refine lH [0, 1, 2, 3, 4] [.blk g7 62 ((atag key nonce aad (List.take (n2 - 16) cs)).map b8), .blk g2 43 (nonce.map b8), .blk g1 22 (key.map b8), .rd A1 1 n1 c1 (aad.map b8), .rd A2 1 n2 c2 (cs.map b8)] ?_
 refine T_seq ?_
 refine T_regD [.blk g7 62 ((atag key nonce aad (List.take (n2 - 16) cs)).map b8), .blk g2 43 (nonce.map b8), .blk g1 22 (key.map b8), .rd A1 1 n1 c1 (aad.map b8), .rd A2 1 n2 c2 (cs.map b8)] 6 6 #[false, false, false, false, false, false] hF kr kr ?_
 refine D_pure (i := 0) [0, 1, 2, 3, 4] rfl kr rfl (pr_sla (l := 0) (u := 16) (m := 0) sd sd sd rfl Tryz.underlying62 (z := 1) kr rfl rfl rfl rfl) (.inr rfl) rfl rfl ?_
 refine D_pure (i := 1) [0, 1, 2, 3, 4] rfl kr rfl (pr_move rfl rfl) (.inr rfl) rfl rfl ?_
 refine D_pure (i := 2) [0, 1, 2, 3, 4] rfl kr rfl (pr_move rfl rfl) (.inr rfl) rfl rfl ?_
 refine D_one 3 _ rfl kr rfl (op_slice_rd (l := n2 - 16) (u := n2) 4 rfl sd sd Tryz.underlying27 kr rfl rfl ⟨_, rfl⟩ rfl rfl rfl (fun B19 => ?_))
 refine T_as 0 _ (.rd B19 1 (n2 - (n2 - 16)) (c2 - (n2 - 16)) ((List.drop (n2 - 16) cs).map b8)) rfl (by congr 1; first | rfl | (rw [List.take_of_length_le (by simp; omega)]; simp)) ?_
 refine T_as 0 _ (.rd B19 1 16 (c2 - (n2 - 16)) ((List.drop (n2 - 16) cs).map b8)) rfl (by rw [show n2 - (n2 - 16) = 16 by omega]) ?_
 refine T_slot 36 (.slice B19 (n2 - (n2 - 16)) (c2 - (n2 - 16))) (.slice B19 16 (c2 - (n2 - 16))) rfl (by rw [show n2 - (n2 - 16) = 16 by omega]) ?_
 refine D_on [1, 2, 3, 4, 5] rfl ?_
 refine D_one 4 _ rfl kr rfl (op_cn (fun w hw => ctequal_f (atag key nonce aad (List.take (n2 - 16) cs)) (some ⟨g7, 0, none⟩) 16 16 (List.drop (n2 - 16) cs) B19 (c2 - (n2 - 16)) w (hok_cons ((src_full (z := 1) 1 rfl sd sd sd) w hw) (hok_cons ((src_rd 0 rfl) w hw) (hok_nil w))) sd sd sd) (enters_of Tryz.func44 kr rfl) rfl rfl rfl rfl rfl (fun t20 q21 => ?_))
 refine D_on [1, 2, 3, 4, 5] rfl ?_
 refine D_pure (i := 5) [1, 2, 3, 4, 5] rfl kr rfl (pr_cmp (bo := .eql) (n64_beq (eqw (atag key nonce aad (List.take (n2 - 16) cs)) (List.drop (n2 - 16) cs)) (0#64)) rfl rfl rfl rfl) (.inr rfl) rfl rfl ?_
 refine D_done kr ?_
 refine T_cond_no (t := ((eqw (atag key nonce aad (List.take (n2 - 16) cs)) (List.drop (n2 - 16) cs)) == 0#64)) rfl (eqw_yes ((agood_iff key nonce aad cs n2 h2).1 hg)) ?_
 refine T_skip ?_
 refine T_seq ?_
 refine T_regD [.rd B19 1 16 (c2 - (n2 - 16)) ((List.drop (n2 - 16) cs).map b8), .blk g7 62 ((atag key nonce aad (List.take (n2 - 16) cs)).map b8), .blk g2 43 (nonce.map b8), .blk g1 22 (key.map b8), .rd A1 1 n1 c1 (aad.map b8), .rd A2 1 n2 c2 (cs.map b8)] 8 8 #[false, false, false, false, false, false, false, false] hF kr kr ?_
 refine D_pure (i := 2) [0, 1, 2, 3, 4, 5] rfl kr rfl (pr_move rfl rfl) (.inr rfl) rfl rfl ?_
 refine D_pure (i := 3) [0, 1, 2, 3, 4, 5] rfl kr rfl (pr_move rfl rfl) (.inr rfl) rfl rfl ?_
 refine D_take (i := 0) [0, 1, 2, 3, 4, 5] rfl kr rfl (ld_agg (ds := (key.map b8)) 3 rfl agg_all Tryz.underlying22 rfl (fwz (n := 32) kr sd) rfl rfl) rfl rfl rfl ?_
 refine D_take (i := 1) [0, 1, 2, 3, 4, 5] rfl kr rfl (ld_agg (ds := (nonce.map b8)) 2 rfl agg_all Tryz.underlying43 rfl (fwz (n := 12) kr sd) rfl rfl) rfl rfl rfl ?_
 refine D_one 4 _ rfl kr rfl (op_slice_rd (l := 0) (u := n2 - 16) 5 rfl sd sd Tryz.underlying27 kr rfl rfl rfl ⟨_, rfl⟩ rfl rfl (fun B22 => ?_))
 refine T_as 0 _ (.rd B22 1 (n2 - 16) c2 ((List.take (n2 - 16) cs).map b8)) rfl (by congr 1; simp [List.map_take, List.map_drop] <;> omega) ?_
 refine T_slot 43 _ (.slice B22 (n2 - 16) c2) rfl (by congr 1) ?_
 refine D_on [1, 2, 3, 4, 5, 6] rfl ?_
 refine D_one 5 _ rfl kr rfl (op_cn (fun w hw => xor_f key nonce (1#32) (List.take (n2 - 16) cs) B22 (n2 - 16) c2 w (hok_cons ((src_rd 0 rfl) w hw) (hok_nil w)) aS aS (by simp; omega) sd) (enters_of Tryz.func35 kr rfl) rfl rfl rfl rfl rfl (fun t23 q24 => ?_))
 obtain ⟨B25, d26⟩ := t23
 refine D_on [2, 3, 4, 5, 6, 7] rfl ?_
 refine D_pure (i := 6) [2, 3, 4, 5, 6, 7] rfl kr rfl (pr_assign rfl rfl) (.inr rfl) rfl rfl ?_
 refine D_pure (i := 7) [2, 3, 4, 5, 6, 7] rfl kr rfl (pr_assign rfl rfl) (.inr rfl) rfl rfl ?_
 refine D_done kr ?_
 refine T_ret ?_
 refine T_as 0 _ (.row (.slice B25 (n2 - 16) d26) 5 1 (n2 - 16) ((aplain key nonce cs).map b8)) rfl (by rw [aplain_def key nonce cs n2 h2]) ?_
 exact T_fin (B25, d26) qN (res2 rfl rfl rfl) [0] ⟨by decide, rfl⟩ rfl
set_option maxRecDepth 100000 in
set_option maxHeartbeats 4000000 in
theorem open_bad_f (key : List (BitVec 8)) (nonce : List (BitVec 8)) (aad : List (BitVec 8)) (cs : List (BitVec 8)) (A1 : Option Addr) (n1 : Nat) (c1 : Nat) (A2 : Option Addr) (n2 : Nat) (c2 : Nat) (w : World) (hO : HOK [.rd A1 1 n1 c1 (aad.map b8), .rd A2 1 n2 c2 (cs.map b8)] w) (hk : key.length = 32) (hn : nonce.length = 12) (h1 : aad.length = n1) (h2 : cs.length = n2) (h3 : n1 ≤ 65536) (h4 : 16 ≤ n2) (h5 : n2 ≤ 65552) (hg : ¬ agood key nonce aad cs) : Calls Tryz.prog 23 [(.agg (key.map b8).toArray), (.agg (nonce.map b8).toArray), (.slice A1 n1 c1), (.slice A2 n2 c2)].toArray w (Ret (T := Unit) [] w (fun _ => True) (fun _ => (.tuple [(.slice none 0 0), (.int .i64 ((6 : Nat) : Int))].toArray)) (fun _ => [])) := by
 have htl := atag_len key nonce aad (List.take (n2 - 16) cs)
 have hcl := cxor_len key nonce 1#32 (List.take (n2 - 16) cs)
 have hF : Wid Fence.wide := wid_wide
 refine enter (c := _) Tryz.func23 rfl [] _ [.rd A1 1 n1 c1 (aad.map b8), .rd A2 1 n2 c2 (cs.map b8)] (by rw [Tryz.ntmps23]; rfl) (own_rds hO rfl) ?_
 rw [Tryz.ntmps23]
 refine lE [(0, (.agg (key.map b8).toArray)), (1, (.agg (nonce.map b8).toArray)), (2, (.slice A1 n1 c1)), (3, (.slice A2 n2 c2))] ?_
 refine lH [0, 1] [.rd A1 1 n1 c1 (aad.map b8), .rd A2 1 n2 c2 (cs.map b8)] ?_
 refine lT ?_
 refine L_op rfl (op_box (zs := (key.map b8)) rfl rfl rfl rfl rfl (fun g1 => ?_))
 refine L_op rfl (op_box (zs := (nonce.map b8)) rfl rfl rfl rfl rfl (fun g2 => ?_))
 refine lS ?_
 refine lS ?_
 refine lN ?_
 refine lM ?_
 refine lO (pr_len_sl Tryz.underlying27 rfl rfl) ?_
 refine lO (pr_sub (ns_i64 (a := n2) (b := 16) sd sd) rfl rfl rfl) ?_
 refine lS ?_
 refine L_nil ?_
 refine T_seq ?_
 refine T_block ?_
 refine lT ?_
 refine lM ?_
 refine lO (pr_len_sl Tryz.underlying27 rfl rfl) ?_
 refine lO (pr_cmp (bo := .gtr) (nc_lt (a := 65536) (b := n1)) rfl rfl rfl rfl) ?_
 refine lM ?_
 refine T_slot 19 (.bool (decide (65536 < n1))) (.bool false) rfl (congrArg _ (by simp; omega)) ?_
 refine lM ?_
 refine lO (pr_cmp (bo := .gtr) (nc_lt (a := 65536) (b := n2 - 16)) rfl rfl rfl rfl) ?_
 refine lO (pr_pick_f rfl rfl rfl) ?_
 refine lS ?_
 refine L_nil ?_
 refine T_cond_no (t := decide (65536 < n2 - 16)) rfl (by simp; omega) ?_
 refine lT ?_
 refine lM ?_
 refine lO (pr_cmp (bo := .lss) (nc_lt (a := n2 - 16) (b := 0)) rfl rfl rfl rfl) ?_
 refine lS ?_
 refine L_nil ?_
 refine T_cond_f rfl ?_
 refine T_skip ?_
 refine T_seq ?_
 refine T_seq ?_
 refine T_regD [.blk g2 43 (nonce.map b8), .blk g1 22 (key.map b8), .rd A1 1 n1 c1 (aad.map b8), .rd A2 1 n2 c2 (cs.map b8)] 9 9 #[false, false, false, false, false, false, false, false, false] hF kr kr ?_
 refine D_pure (i := 2) [0, 1, 2, 3] rfl kr rfl (pr_move rfl rfl) (.inr rfl) rfl rfl ?_
 refine D_pure (i := 3) [0, 1, 2, 3] rfl kr rfl (pr_move rfl rfl) (.inr rfl) rfl rfl ?_
 refine D_pure (i := 4) [0, 1, 2, 3] rfl kr rfl (pr_move rfl rfl) (.inr rfl) rfl rfl ?_
 refine D_take (i := 0) [0, 1, 2, 3] rfl kr rfl (ld_agg (ds := (key.map b8)) 1 rfl agg_all Tryz.underlying22 rfl (fwz (n := 32) kr sd) rfl rfl) rfl rfl rfl ?_
 refine D_take (i := 1) [0, 1, 2, 3] rfl kr rfl (ld_agg (ds := (nonce.map b8)) 0 rfl agg_all Tryz.underlying43 rfl (fwz (n := 12) kr sd) rfl rfl) rfl rfl rfl ?_
 refine D_join (T := Nat) (fun _ => True) (fun g7 => [(3, (.slice A2 n2 c2)), (4, (.pointer (some ⟨g1, 0, none⟩))), (5, (.pointer (some ⟨g2, 0, none⟩))), (10, (.int .i64 ((n2 - 16 : Nat) : Int))), (11, (.pointer (some ⟨g7, 0, none⟩)))]) (fun g7 => [.blk g7 62 ((atag key nonce aad (List.take (n2 - 16) cs)).map b8), .blk g2 43 (nonce.map b8), .blk g1 22 (key.map b8), .rd A1 1 n1 c1 (aad.map b8), .rd A2 1 n2 c2 (cs.map b8)]) ?_ ?_
 ·refine D_all [5, 7] kr (by simp) ⟨⟨_, rfl, rfl, ?_⟩, ⟨_, rfl, rfl, ?_⟩, trivial⟩
  ·refine id (op_slice_rd (l := 0) (u := n2 - 16) 3 rfl sd sd Tryz.underlying27 kr rfl rfl rfl ⟨_, rfl⟩ rfl rfl (fun B8 => ?_))
   refine T_as 0 _ (.rd B8 1 (n2 - 16) c2 ((List.take (n2 - 16) cs).map b8)) rfl (by congr 1; simp [List.map_take, List.map_drop] <;> omega) ?_
   refine T_slot 31 _ (.slice B8 (n2 - 16) c2) rfl (by congr 1) ?_
   refine D_on [1, 2, 3, 4] rfl ?_
   refine D_all [6, 7] kr (by simp) ⟨⟨_, rfl, rfl, ?_⟩, ⟨_, rfl, rfl, ?_⟩, trivial⟩
   ·refine id (op_cn (fun w hw => atag_f key nonce aad (List.take (n2 - 16) cs) A1 n1 c1 B8 (n2 - 16) c2 w (hok_cons ((src_rd 3 rfl) w hw) (hok_cons ((src_rd 0 rfl) w hw) (hok_nil w))) aS aS aS sd sd sd) (enters_of Tryz.func36 kr rfl) rfl rfl rfl rfl rfl (fun t9 q10 => ?_))
    refine D_on [1, 2, 3, 4] rfl ?_
    refine D_one 7 _ rfl kr rfl (op_alloc (z := .agg ((List.replicate 16 0#8).map b8).toArray) (zs := ((List.replicate 16 0#8).map b8)) kr rfl rfl rfl rfl (fun g11 => ?_))
    refine D_on [2, 3, 4, 5] rfl ?_
    refine D_one 8 _ rfl kr rfl (op_sto (n := 16) (vs := ((atag key nonce aad (List.take (n2 - 16) cs)).map b8)) 0 rfl rfl kr (all8_one _) kr sd rfl rfl rfl rfl ?_)
    refine D_on [2, 3, 4, 5] rfl ?_
    refine D_done kr ?_
    exact T_meet g11 trivial (sc rfl (sc rfl (sc rfl (sc rfl (sc rfl sn))))) [0, 2, 3, 4, 5] ⟨by decide, rfl⟩
   refine id (op_alloc (z := .agg ((List.replicate 16 0#8).map b8).toArray) (zs := ((List.replicate 16 0#8).map b8)) kr rfl rfl rfl rfl (fun g12 => ?_))
   refine D_on [2, 3, 4, 5] rfl ?_
   refine D_one 6 _ rfl kr rfl (op_cn (fun w hw => atag_f key nonce aad (List.take (n2 - 16) cs) A1 n1 c1 B8 (n2 - 16) c2 w (hok_cons ((src_rd 4 rfl) w hw) (hok_cons ((src_rd 1 rfl) w hw) (hok_nil w))) aS aS aS sd sd sd) (enters_of Tryz.func36 kr rfl) rfl rfl rfl rfl rfl (fun t13 q14 => ?_))
   refine D_on [2, 3, 4, 5] rfl ?_
   refine D_one 8 _ rfl kr rfl (op_sto (n := 16) (vs := ((atag key nonce aad (List.take (n2 - 16) cs)).map b8)) 0 rfl rfl kr (all8_one _) kr sd rfl rfl rfl rfl ?_)
   refine D_on [2, 3, 4, 5] rfl ?_
   refine D_done kr ?_
   exact T_meet g12 trivial (sc rfl (sc rfl (sc rfl (sc rfl (sc rfl sn))))) [0, 2, 3, 4, 5] ⟨by decide, rfl⟩
  refine id (op_alloc (z := .agg ((List.replicate 16 0#8).map b8).toArray) (zs := ((List.replicate 16 0#8).map b8)) kr rfl rfl rfl rfl (fun g15 => ?_))
  refine D_on [1, 2, 3, 4] rfl ?_
  refine D_one 5 _ rfl kr rfl (op_slice_rd (l := 0) (u := n2 - 16) 4 rfl sd sd Tryz.underlying27 kr rfl rfl rfl ⟨_, rfl⟩ rfl rfl (fun B16 => ?_))
  refine T_as 0 _ (.rd B16 1 (n2 - 16) c2 ((List.take (n2 - 16) cs).map b8)) rfl (by congr 1; simp [List.map_take, List.map_drop] <;> omega) ?_
  refine T_slot 31 _ (.slice B16 (n2 - 16) c2) rfl (by congr 1) ?_
  refine D_on [2, 3, 4, 5] rfl ?_
  refine D_one 6 _ rfl kr rfl (op_cn (fun w hw => atag_f key nonce aad (List.take (n2 - 16) cs) A1 n1 c1 B16 (n2 - 16) c2 w (hok_cons ((src_rd 4 rfl) w hw) (hok_cons ((src_rd 0 rfl) w hw) (hok_nil w))) aS aS aS sd sd sd) (enters_of Tryz.func36 kr rfl) rfl rfl rfl rfl rfl (fun t17 q18 => ?_))
  refine D_on [2, 3, 4, 5] rfl ?_
  refine D_one 8 _ rfl kr rfl (op_sto (n := 16) (vs := ((atag key nonce aad (List.take (n2 - 16) cs)).map b8)) 1 rfl rfl kr (all8_one _) kr sd rfl rfl rfl rfl ?_)
  refine D_on [2, 3, 4, 5] rfl ?_
  refine D_done kr ?_
  exact T_meet g15 trivial (sc rfl (sc rfl (sc rfl (sc rfl (sc rfl sn))))) [0, 2, 3, 4, 5] ⟨by decide, rfl⟩
 rintro g7 -
 refine lE [(3, (.slice A2 n2 c2)), (4, (.pointer (some ⟨g1, 0, none⟩))), (5, (.pointer (some ⟨g2, 0, none⟩))), (10, (.int .i64 ((n2 - 16 : Nat) : Int))), (11, (.pointer (some ⟨g7, 0, none⟩)))] ?_
 refine lH [0, 1, 2, 3, 4] [.blk g7 62 ((atag key nonce aad (List.take (n2 - 16) cs)).map b8), .blk g2 43 (nonce.map b8), .blk g1 22 (key.map b8), .rd A1 1 n1 c1 (aad.map b8), .rd A2 1 n2 c2 (cs.map b8)] ?_
 refine T_seq ?_
 refine T_regD [.blk g7 62 ((atag key nonce aad (List.take (n2 - 16) cs)).map b8), .blk g2 43 (nonce.map b8), .blk g1 22 (key.map b8), .rd A1 1 n1 c1 (aad.map b8), .rd A2 1 n2 c2 (cs.map b8)] 6 6 #[false, false, false, false, false, false] hF kr kr ?_
 refine D_pure (i := 0) [0, 1, 2, 3, 4] rfl kr rfl (pr_sla (l := 0) (u := 16) (m := 0) sd sd sd rfl Tryz.underlying62 (z := 1) kr rfl rfl rfl rfl) (.inr rfl) rfl rfl ?_
 refine D_pure (i := 1) [0, 1, 2, 3, 4] rfl kr rfl (pr_move rfl rfl) (.inr rfl) rfl rfl ?_
 refine D_pure (i := 2) [0, 1, 2, 3, 4] rfl kr rfl (pr_move rfl rfl) (.inr rfl) rfl rfl ?_
 refine D_one 3 _ rfl kr rfl (op_slice_rd (l := n2 - 16) (u := n2) 4 rfl sd sd Tryz.underlying27 kr rfl rfl ⟨_, rfl⟩ rfl rfl rfl (fun B19 => ?_))
 refine T_as 0 _ (.rd B19 1 (n2 - (n2 - 16)) (c2 - (n2 - 16)) ((List.drop (n2 - 16) cs).map b8)) rfl (by congr 1; first | rfl | (rw [List.take_of_length_le (by simp; omega)]; simp)) ?_
 refine T_as 0 _ (.rd B19 1 16 (c2 - (n2 - 16)) ((List.drop (n2 - 16) cs).map b8)) rfl (by rw [show n2 - (n2 - 16) = 16 by omega]) ?_
 refine T_slot 36 (.slice B19 (n2 - (n2 - 16)) (c2 - (n2 - 16))) (.slice B19 16 (c2 - (n2 - 16))) rfl (by rw [show n2 - (n2 - 16) = 16 by omega]) ?_
 refine D_on [1, 2, 3, 4, 5] rfl ?_
 refine D_one 4 _ rfl kr rfl (op_cn (fun w hw => ctequal_f (atag key nonce aad (List.take (n2 - 16) cs)) (some ⟨g7, 0, none⟩) 16 16 (List.drop (n2 - 16) cs) B19 (c2 - (n2 - 16)) w (hok_cons ((src_full (z := 1) 1 rfl sd sd sd) w hw) (hok_cons ((src_rd 0 rfl) w hw) (hok_nil w))) sd sd sd) (enters_of Tryz.func44 kr rfl) rfl rfl rfl rfl rfl (fun t20 q21 => ?_))
 refine D_on [1, 2, 3, 4, 5] rfl ?_
 refine D_pure (i := 5) [1, 2, 3, 4, 5] rfl kr rfl (pr_cmp (bo := .eql) (n64_beq (eqw (atag key nonce aad (List.take (n2 - 16) cs)) (List.drop (n2 - 16) cs)) (0#64)) rfl rfl rfl rfl) (.inr rfl) rfl rfl ?_
 refine D_done kr ?_
 refine T_cond_yes (t := ((eqw (atag key nonce aad (List.take (n2 - 16) cs)) (List.drop (n2 - 16) cs)) == 0#64)) rfl (eqw_no (fun e => hg ((agood_iff key nonce aad cs n2 h2).2 e))) ?_
 refine lT ?_
 refine lS ?_
 refine lS ?_
 refine L_nil ?_
 refine T_ret ?_
 exact T_fin () qN (res2 rfl rfl rfl) [] ⟨by decide, rfl⟩ rfl
set_option maxRecDepth 100000 in
set_option maxHeartbeats 4000000 in
theorem open_short_f (key : List (BitVec 8)) (nonce : List (BitVec 8)) (aad : List (BitVec 8)) (cs : List (BitVec 8)) (A1 : Option Addr) (n1 : Nat) (c1 : Nat) (A2 : Option Addr) (n2 : Nat) (c2 : Nat) (w : World) (hO : HOK [.rd A1 1 n1 c1 (aad.map b8), .rd A2 1 n2 c2 (cs.map b8)] w) (hk : key.length = 32) (hn : nonce.length = 12) (h1 : aad.length = n1) (h2 : cs.length = n2) (h3 : n1 ≤ 65536) (h4 : n2 < 16) : Calls Tryz.prog 23 [(.agg (key.map b8).toArray), (.agg (nonce.map b8).toArray), (.slice A1 n1 c1), (.slice A2 n2 c2)].toArray w (Ret (T := Unit) [] w (fun _ => True) (fun _ => (.tuple [(.slice none 0 0), (.int .i64 ((3 : Nat) : Int))].toArray)) (fun _ => [])) := by
 refine enter (c := _) Tryz.func23 rfl [] _ [.rd A1 1 n1 c1 (aad.map b8), .rd A2 1 n2 c2 (cs.map b8)] (by rw [Tryz.ntmps23]; rfl) (own_rds hO rfl) ?_
 rw [Tryz.ntmps23]
 refine lE [(0, (.agg (key.map b8).toArray)), (1, (.agg (nonce.map b8).toArray)), (2, (.slice A1 n1 c1)), (3, (.slice A2 n2 c2))] ?_
 refine lH [0, 1] [.rd A1 1 n1 c1 (aad.map b8), .rd A2 1 n2 c2 (cs.map b8)] ?_
 refine lT ?_
 refine L_op rfl (op_box (zs := (key.map b8)) rfl rfl rfl rfl rfl (fun g1 => ?_))
 refine L_op rfl (op_box (zs := (nonce.map b8)) rfl rfl rfl rfl rfl (fun g2 => ?_))
 refine lS ?_
 refine lS ?_
 refine lN ?_
 refine lM ?_
 refine lO (pr_len_sl Tryz.underlying27 rfl rfl) ?_
 refine lO (pr_sub (zw_i64 (z := (((n2 : Nat) : Int) - ((16 : Nat) : Int))) sd) rfl rfl rfl) ?_
 refine lS ?_
 refine L_nil ?_
 refine T_seq ?_
 refine T_block ?_
 refine lT ?_
 refine lM ?_
 refine lO (pr_len_sl Tryz.underlying27 rfl rfl) ?_
 refine lO (pr_cmp (bo := .gtr) (nc_lt (a := 65536) (b := n1)) rfl rfl rfl rfl) ?_
 refine lM ?_
 refine T_slot 19 (.bool (decide (65536 < n1))) (.bool false) rfl (congrArg _ (by simp; omega)) ?_
 refine lM ?_
 refine lO (pr_cmp (bo := .gtr) (k := .i64) (a := (((n2 : Nat) : Int) - ((16 : Nat) : Int))) (b := ((65536 : Nat) : Int)) (c := decide (((65536 : Nat) : Int) < (((n2 : Nat) : Int) - ((16 : Nat) : Int)))) rfl rfl rfl rfl rfl) ?_
 refine lO (pr_pick_f rfl rfl rfl) ?_
 refine lS ?_
 refine L_nil ?_
 refine T_cond_no (t := decide (((65536 : Nat) : Int) < (((n2 : Nat) : Int) - ((16 : Nat) : Int)))) rfl (by simp; omega) ?_
 refine lT ?_
 refine lM ?_
 refine lO (pr_cmp (bo := .lss) (k := .i64) (a := (((n2 : Nat) : Int) - ((16 : Nat) : Int))) (b := ((0 : Nat) : Int)) (c := decide ((((n2 : Nat) : Int) - ((16 : Nat) : Int)) < ((0 : Nat) : Int))) rfl rfl rfl rfl rfl) ?_
 refine lS ?_
 refine L_nil ?_
 refine T_cond_yes (t := decide ((((n2 : Nat) : Int) - ((16 : Nat) : Int)) < ((0 : Nat) : Int))) rfl (by simp; omega) ?_
 refine lT ?_
 refine lS ?_
 refine lS ?_
 refine L_nil ?_
 refine T_ret ?_
 exact T_fin () qN (res2 rfl rfl rfl) [] ⟨by decide, rfl⟩ rfl
set_option maxRecDepth 100000 in
set_option maxHeartbeats 4000000 in
theorem ropen_ok_f (key : List (BitVec 8)) (nonce : List (BitVec 8)) (aad : List (BitVec 8)) (cs : List (BitVec 8)) (A1 : Option Addr) (n1 : Nat) (c1 : Nat) (A2 : Option Addr) (n2 : Nat) (c2 : Nat) (w : World) (hO : HOK [.rd A1 1 n1 c1 (aad.map b8), .rd A2 1 n2 c2 (cs.map b8)] w) (hk : key.length = 32) (hn : nonce.length = 12) (h1 : aad.length = n1) (h2 : cs.length = n2) (h3 : n1 ≤ 65536) (h4 : 16 ≤ n2) (h5 : n2 ≤ 65552) (hg : agood key nonce aad cs) : Calls Tryz.prog 26 [(.agg (key.map b8).toArray), (.agg (nonce.map b8).toArray), (.slice A1 n1 c1), (.slice A2 n2 c2)].toArray w (Ret (T := Option Addr × Nat) [] w (fun ⟨B, d⟩ => True) (fun ⟨B, d⟩ => (.tuple [(.slice B (n2 - 16) d), (.int .i64 ((0 : Nat) : Int))].toArray)) (fun ⟨B, d⟩ => [.row (.slice B (n2 - 16) d) 5 1 (n2 - 16) ((aplain key nonce cs).map b8)])) := by
 have htl := atag_len key nonce aad (List.take (n2 - 16) cs)
 have hcl := cxor_len key nonce 1#32 (List.take (n2 - 16) cs)
 have hF : Wid Fence.wide := wid_wide
 refine enter (c := _) Tryz.func26 rfl [] _ [.rd A1 1 n1 c1 (aad.map b8), .rd A2 1 n2 c2 (cs.map b8)] (by rw [Tryz.ntmps26]; rfl) (own_rds hO rfl) ?_
 rw [Tryz.ntmps26]
 refine lE [(0, (.agg (key.map b8).toArray)), (1, (.agg (nonce.map b8).toArray)), (2, (.slice A1 n1 c1)), (3, (.slice A2 n2 c2))] ?_
 refine lH [0, 1] [.rd A1 1 n1 c1 (aad.map b8), .rd A2 1 n2 c2 (cs.map b8)] ?_
 refine lT ?_
 refine L_op rfl (op_box (zs := (key.map b8)) rfl rfl rfl rfl rfl (fun g1 => ?_))
 refine L_op rfl (op_box (zs := (nonce.map b8)) rfl rfl rfl rfl rfl (fun g2 => ?_))
 refine lS ?_
 refine lS ?_
 refine lN ?_
 refine lM ?_
 refine lO (pr_len_sl Tryz.underlying27 rfl rfl) ?_
 refine lO (pr_sub (ns_i64 (a := n2) (b := 16) sd sd) rfl rfl rfl) ?_
 refine lS ?_
 refine L_nil ?_
 refine T_seq ?_
 refine T_block ?_
 refine lT ?_
 refine lM ?_
 refine lO (pr_len_sl Tryz.underlying27 rfl rfl) ?_
 refine lO (pr_cmp (bo := .gtr) (nc_lt (a := 65536) (b := n1)) rfl rfl rfl rfl) ?_
 refine lM ?_
 refine T_slot 19 (.bool (decide (65536 < n1))) (.bool false) rfl (congrArg _ (by simp; omega)) ?_
 refine lM ?_
 refine lO (pr_cmp (bo := .gtr) (nc_lt (a := 65536) (b := n2 - 16)) rfl rfl rfl rfl) ?_
 refine lO (pr_pick_f rfl rfl rfl) ?_
 refine lS ?_
 refine L_nil ?_
 refine T_cond_no (t := decide (65536 < n2 - 16)) rfl (by simp; omega) ?_
 refine lT ?_
 refine lM ?_
 refine lO (pr_cmp (bo := .lss) (nc_lt (a := n2 - 16) (b := 0)) rfl rfl rfl rfl) ?_
 refine lS ?_
 refine L_nil ?_
 refine T_cond_f rfl ?_
 refine T_skip ?_
 refine T_seq ?_
 refine T_regD [.blk g2 43 (nonce.map b8), .blk g1 22 (key.map b8), .rd A1 1 n1 c1 (aad.map b8), .rd A2 1 n2 c2 (cs.map b8)] 9 9 #[false, false, false, false, false, false, false, false, false] hF kr kr ?_
 refine D_pure (i := 2) [0, 1, 2, 3] rfl kr rfl (pr_move rfl rfl) (.inr rfl) rfl rfl ?_
 refine D_pure (i := 3) [0, 1, 2, 3] rfl kr rfl (pr_move rfl rfl) (.inr rfl) rfl rfl ?_
 refine D_pure (i := 4) [0, 1, 2, 3] rfl kr rfl (pr_move rfl rfl) (.inr rfl) rfl rfl ?_
 refine D_take (i := 0) [0, 1, 2, 3] rfl kr rfl (ld_agg (ds := (key.map b8)) 1 rfl agg_all Tryz.underlying22 rfl (fwz (n := 32) kr sd) rfl rfl) rfl rfl rfl ?_
 refine D_take (i := 1) [0, 1, 2, 3] rfl kr rfl (ld_agg (ds := (nonce.map b8)) 0 rfl agg_all Tryz.underlying43 rfl (fwz (n := 12) kr sd) rfl rfl) rfl rfl rfl ?_
 refine D_join (T := Nat) (fun _ => True) (fun g7 => [(3, (.slice A2 n2 c2)), (4, (.pointer (some ⟨g1, 0, none⟩))), (5, (.pointer (some ⟨g2, 0, none⟩))), (10, (.int .i64 ((n2 - 16 : Nat) : Int))), (11, (.pointer (some ⟨g7, 0, none⟩)))]) (fun g7 => [.blk g7 62 ((atag key nonce aad (List.take (n2 - 16) cs)).map b8), .blk g2 43 (nonce.map b8), .blk g1 22 (key.map b8), .rd A1 1 n1 c1 (aad.map b8), .rd A2 1 n2 c2 (cs.map b8)]) ?_ ?_
 ·refine D_all [5, 7] kr (by simp) ⟨⟨_, rfl, rfl, ?_⟩, ⟨_, rfl, rfl, ?_⟩, trivial⟩
  ·refine id (op_slice_rd (l := 0) (u := n2 - 16) 3 rfl sd sd Tryz.underlying27 kr rfl rfl rfl ⟨_, rfl⟩ rfl rfl (fun B8 => ?_))
   refine T_as 0 _ (.rd B8 1 (n2 - 16) c2 ((List.take (n2 - 16) cs).map b8)) rfl (by congr 1; simp [List.map_take, List.map_drop] <;> omega) ?_
   refine T_slot 31 _ (.slice B8 (n2 - 16) c2) rfl (by congr 1) ?_
   refine D_on [1, 2, 3, 4] rfl ?_
   refine D_all [6, 7] kr (by simp) ⟨⟨_, rfl, rfl, ?_⟩, ⟨_, rfl, rfl, ?_⟩, trivial⟩
   ·refine id (op_cn (fun w hw => ratag_f key nonce aad (List.take (n2 - 16) cs) A1 n1 c1 B8 (n2 - 16) c2 w (hok_cons ((src_rd 3 rfl) w hw) (hok_cons ((src_rd 0 rfl) w hw) (hok_nil w))) aS aS aS sd sd sd) (enters_of Tryz.func41 kr rfl) rfl rfl rfl rfl rfl (fun t9 q10 => ?_))
    refine D_on [1, 2, 3, 4] rfl ?_
    refine D_one 7 _ rfl kr rfl (op_alloc (z := .agg ((List.replicate 16 0#8).map b8).toArray) (zs := ((List.replicate 16 0#8).map b8)) kr rfl rfl rfl rfl (fun g11 => ?_))
    refine D_on [2, 3, 4, 5] rfl ?_
    refine D_one 8 _ rfl kr rfl (op_sto (n := 16) (vs := ((atag key nonce aad (List.take (n2 - 16) cs)).map b8)) 0 rfl rfl kr (all8_one _) kr sd rfl rfl rfl rfl ?_)
    refine D_on [2, 3, 4, 5] rfl ?_
    refine D_done kr ?_
    exact T_meet g11 trivial (sc rfl (sc rfl (sc rfl (sc rfl (sc rfl sn))))) [0, 2, 3, 4, 5] ⟨by decide, rfl⟩
   refine id (op_alloc (z := .agg ((List.replicate 16 0#8).map b8).toArray) (zs := ((List.replicate 16 0#8).map b8)) kr rfl rfl rfl rfl (fun g12 => ?_))
   refine D_on [2, 3, 4, 5] rfl ?_
   refine D_one 6 _ rfl kr rfl (op_cn (fun w hw => ratag_f key nonce aad (List.take (n2 - 16) cs) A1 n1 c1 B8 (n2 - 16) c2 w (hok_cons ((src_rd 4 rfl) w hw) (hok_cons ((src_rd 1 rfl) w hw) (hok_nil w))) aS aS aS sd sd sd) (enters_of Tryz.func41 kr rfl) rfl rfl rfl rfl rfl (fun t13 q14 => ?_))
   refine D_on [2, 3, 4, 5] rfl ?_
   refine D_one 8 _ rfl kr rfl (op_sto (n := 16) (vs := ((atag key nonce aad (List.take (n2 - 16) cs)).map b8)) 0 rfl rfl kr (all8_one _) kr sd rfl rfl rfl rfl ?_)
   refine D_on [2, 3, 4, 5] rfl ?_
   refine D_done kr ?_
   exact T_meet g12 trivial (sc rfl (sc rfl (sc rfl (sc rfl (sc rfl sn))))) [0, 2, 3, 4, 5] ⟨by decide, rfl⟩
  refine id (op_alloc (z := .agg ((List.replicate 16 0#8).map b8).toArray) (zs := ((List.replicate 16 0#8).map b8)) kr rfl rfl rfl rfl (fun g15 => ?_))
  refine D_on [1, 2, 3, 4] rfl ?_
  refine D_one 5 _ rfl kr rfl (op_slice_rd (l := 0) (u := n2 - 16) 4 rfl sd sd Tryz.underlying27 kr rfl rfl rfl ⟨_, rfl⟩ rfl rfl (fun B16 => ?_))
  refine T_as 0 _ (.rd B16 1 (n2 - 16) c2 ((List.take (n2 - 16) cs).map b8)) rfl (by congr 1; simp [List.map_take, List.map_drop] <;> omega) ?_
  refine T_slot 31 _ (.slice B16 (n2 - 16) c2) rfl (by congr 1) ?_
  refine D_on [2, 3, 4, 5] rfl ?_
  refine D_one 6 _ rfl kr rfl (op_cn (fun w hw => ratag_f key nonce aad (List.take (n2 - 16) cs) A1 n1 c1 B16 (n2 - 16) c2 w (hok_cons ((src_rd 4 rfl) w hw) (hok_cons ((src_rd 0 rfl) w hw) (hok_nil w))) aS aS aS sd sd sd) (enters_of Tryz.func41 kr rfl) rfl rfl rfl rfl rfl (fun t17 q18 => ?_))
  refine D_on [2, 3, 4, 5] rfl ?_
  refine D_one 8 _ rfl kr rfl (op_sto (n := 16) (vs := ((atag key nonce aad (List.take (n2 - 16) cs)).map b8)) 1 rfl rfl kr (all8_one _) kr sd rfl rfl rfl rfl ?_)
  refine D_on [2, 3, 4, 5] rfl ?_
  refine D_done kr ?_
  exact T_meet g15 trivial (sc rfl (sc rfl (sc rfl (sc rfl (sc rfl sn))))) [0, 2, 3, 4, 5] ⟨by decide, rfl⟩
 rintro g7 -
 refine lE [(3, (.slice A2 n2 c2)), (4, (.pointer (some ⟨g1, 0, none⟩))), (5, (.pointer (some ⟨g2, 0, none⟩))), (10, (.int .i64 ((n2 - 16 : Nat) : Int))), (11, (.pointer (some ⟨g7, 0, none⟩)))] ?_
 refine lH [0, 1, 2, 3, 4] [.blk g7 62 ((atag key nonce aad (List.take (n2 - 16) cs)).map b8), .blk g2 43 (nonce.map b8), .blk g1 22 (key.map b8), .rd A1 1 n1 c1 (aad.map b8), .rd A2 1 n2 c2 (cs.map b8)] ?_
 refine T_seq ?_
 refine T_seq ?_
 refine T_regD [.blk g7 62 ((atag key nonce aad (List.take (n2 - 16) cs)).map b8), .blk g2 43 (nonce.map b8), .blk g1 22 (key.map b8), .rd A1 1 n1 c1 (aad.map b8), .rd A2 1 n2 c2 (cs.map b8)] 7 7 #[false, false, false, false, false, false, false] hF kr kr ?_
 refine D_pure (i := 0) [0, 1, 2, 3, 4] rfl kr rfl (pr_sla (l := 0) (u := 16) (m := 0) sd sd sd rfl Tryz.underlying62 (z := 1) kr rfl rfl rfl rfl) (.inr rfl) rfl rfl ?_
 refine D_pure (i := 2) [0, 1, 2, 3, 4] rfl kr rfl (pr_move rfl rfl) (.inr rfl) rfl rfl ?_
 refine D_pure (i := 3) [0, 1, 2, 3, 4] rfl kr rfl (pr_move rfl rfl) (.inr rfl) rfl rfl ?_
 refine D_take (i := 1) [0, 1, 2, 3, 4] rfl kr rfl (ld_str (xs := (atag key nonce aad (List.take (n2 - 16) cs))) (src_full (z := 1) 0 rfl sd sd sd) Tryz.underlying27 Tryz.underlying5 Tryz.underlying9 rfl rfl) rfl rfl rfl ?_
 refine D_one 4 _ rfl kr rfl (op_slice_rd (l := n2 - 16) (u := n2) 4 rfl sd sd Tryz.underlying27 kr rfl rfl ⟨_, rfl⟩ rfl rfl rfl (fun B19 => ?_))
 refine T_as 0 _ (.rd B19 1 (n2 - (n2 - 16)) (c2 - (n2 - 16)) ((List.drop (n2 - 16) cs).map b8)) rfl (by congr 1; first | rfl | (rw [List.take_of_length_le (by simp; omega)]; simp)) ?_
 refine T_as 0 _ (.rd B19 1 16 (c2 - (n2 - 16)) ((List.drop (n2 - 16) cs).map b8)) rfl (by rw [show n2 - (n2 - 16) = 16 by omega]) ?_
 refine T_slot 37 (.slice B19 (n2 - (n2 - 16)) (c2 - (n2 - 16))) (.slice B19 16 (c2 - (n2 - 16))) rfl (by rw [show n2 - (n2 - 16) = 16 by omega]) ?_
 refine D_on [1, 2, 3, 4, 5] rfl ?_
 refine D_one 5 _ rfl kr rfl (op_ld (ld_str (xs := (List.drop (n2 - 16) cs)) (src_rd 0 rfl) Tryz.underlying27 Tryz.underlying5 Tryz.underlying9 rfl rfl) rfl rfl ?_)
 refine D_on [1, 2, 3, 4, 5] rfl ?_
 refine D_pure (i := 6) [1, 2, 3, 4, 5] rfl kr rfl (pr_strne rfl rfl rfl) (.inr rfl) rfl rfl ?_
 refine D_done kr ?_
 refine T_cond_no (t := !decide ((atag key nonce aad (List.take (n2 - 16) cs)) = (List.drop (n2 - 16) cs))) rfl (by rw [(agood_iff key nonce aad cs n2 h2).1 hg]; simp) ?_
 refine T_skip ?_
 refine T_seq ?_
 refine T_regD [.rd B19 1 16 (c2 - (n2 - 16)) ((List.drop (n2 - 16) cs).map b8), .blk g7 62 ((atag key nonce aad (List.take (n2 - 16) cs)).map b8), .blk g2 43 (nonce.map b8), .blk g1 22 (key.map b8), .rd A1 1 n1 c1 (aad.map b8), .rd A2 1 n2 c2 (cs.map b8)] 8 8 #[false, false, false, false, false, false, false, false] hF kr kr ?_
 refine D_pure (i := 2) [0, 1, 2, 3, 4, 5] rfl kr rfl (pr_move rfl rfl) (.inr rfl) rfl rfl ?_
 refine D_pure (i := 3) [0, 1, 2, 3, 4, 5] rfl kr rfl (pr_move rfl rfl) (.inr rfl) rfl rfl ?_
 refine D_take (i := 0) [0, 1, 2, 3, 4, 5] rfl kr rfl (ld_agg (ds := (key.map b8)) 3 rfl agg_all Tryz.underlying22 rfl (fwz (n := 32) kr sd) rfl rfl) rfl rfl rfl ?_
 refine D_take (i := 1) [0, 1, 2, 3, 4, 5] rfl kr rfl (ld_agg (ds := (nonce.map b8)) 2 rfl agg_all Tryz.underlying43 rfl (fwz (n := 12) kr sd) rfl rfl) rfl rfl rfl ?_
 refine D_one 4 _ rfl kr rfl (op_slice_rd (l := 0) (u := n2 - 16) 5 rfl sd sd Tryz.underlying27 kr rfl rfl rfl ⟨_, rfl⟩ rfl rfl (fun B20 => ?_))
 refine T_as 0 _ (.rd B20 1 (n2 - 16) c2 ((List.take (n2 - 16) cs).map b8)) rfl (by congr 1; simp [List.map_take, List.map_drop] <;> omega) ?_
 refine T_slot 44 _ (.slice B20 (n2 - 16) c2) rfl (by congr 1) ?_
 refine D_on [1, 2, 3, 4, 5, 6] rfl ?_
 refine D_one 5 _ rfl kr rfl (op_cn (fun w hw => rxor_f key nonce (1#32) (List.take (n2 - 16) cs) B20 (n2 - 16) c2 w (hok_cons ((src_rd 0 rfl) w hw) (hok_nil w)) aS aS (by simp; omega) sd) (enters_of Tryz.func40 kr rfl) rfl rfl rfl rfl rfl (fun t21 q22 => ?_))
 obtain ⟨B23, d24⟩ := t21
 refine D_on [2, 3, 4, 5, 6, 7] rfl ?_
 refine D_pure (i := 6) [2, 3, 4, 5, 6, 7] rfl kr rfl (pr_assign rfl rfl) (.inr rfl) rfl rfl ?_
 refine D_pure (i := 7) [2, 3, 4, 5, 6, 7] rfl kr rfl (pr_assign rfl rfl) (.inr rfl) rfl rfl ?_
 refine D_done kr ?_
 refine T_ret ?_
 refine T_as 0 _ (.row (.slice B23 (n2 - 16) d24) 5 1 (n2 - 16) ((aplain key nonce cs).map b8)) rfl (by rw [aplain_def key nonce cs n2 h2]) ?_
 exact T_fin (B23, d24) qN (res2 rfl rfl rfl) [0] ⟨by decide, rfl⟩ rfl
set_option maxRecDepth 100000 in
set_option maxHeartbeats 4000000 in
theorem ropen_bad_f (key : List (BitVec 8)) (nonce : List (BitVec 8)) (aad : List (BitVec 8)) (cs : List (BitVec 8)) (A1 : Option Addr) (n1 : Nat) (c1 : Nat) (A2 : Option Addr) (n2 : Nat) (c2 : Nat) (w : World) (hO : HOK [.rd A1 1 n1 c1 (aad.map b8), .rd A2 1 n2 c2 (cs.map b8)] w) (hk : key.length = 32) (hn : nonce.length = 12) (h1 : aad.length = n1) (h2 : cs.length = n2) (h3 : n1 ≤ 65536) (h4 : 16 ≤ n2) (h5 : n2 ≤ 65552) (hg : ¬ agood key nonce aad cs) : Calls Tryz.prog 26 [(.agg (key.map b8).toArray), (.agg (nonce.map b8).toArray), (.slice A1 n1 c1), (.slice A2 n2 c2)].toArray w (Ret (T := Unit) [] w (fun _ => True) (fun _ => (.tuple [(.slice none 0 0), (.int .i64 ((6 : Nat) : Int))].toArray)) (fun _ => [])) := by
 have htl := atag_len key nonce aad (List.take (n2 - 16) cs)
 have hcl := cxor_len key nonce 1#32 (List.take (n2 - 16) cs)
 have hF : Wid Fence.wide := wid_wide
 refine enter (c := _) Tryz.func26 rfl [] _ [.rd A1 1 n1 c1 (aad.map b8), .rd A2 1 n2 c2 (cs.map b8)] (by rw [Tryz.ntmps26]; rfl) (own_rds hO rfl) ?_
 rw [Tryz.ntmps26]
 refine lE [(0, (.agg (key.map b8).toArray)), (1, (.agg (nonce.map b8).toArray)), (2, (.slice A1 n1 c1)), (3, (.slice A2 n2 c2))] ?_
 refine lH [0, 1] [.rd A1 1 n1 c1 (aad.map b8), .rd A2 1 n2 c2 (cs.map b8)] ?_
 refine lT ?_
 refine L_op rfl (op_box (zs := (key.map b8)) rfl rfl rfl rfl rfl (fun g1 => ?_))
 refine L_op rfl (op_box (zs := (nonce.map b8)) rfl rfl rfl rfl rfl (fun g2 => ?_))
 refine lS ?_
 refine lS ?_
 refine lN ?_
 refine lM ?_
 refine lO (pr_len_sl Tryz.underlying27 rfl rfl) ?_
 refine lO (pr_sub (ns_i64 (a := n2) (b := 16) sd sd) rfl rfl rfl) ?_
 refine lS ?_
 refine L_nil ?_
 refine T_seq ?_
 refine T_block ?_
 refine lT ?_
 refine lM ?_
 refine lO (pr_len_sl Tryz.underlying27 rfl rfl) ?_
 refine lO (pr_cmp (bo := .gtr) (nc_lt (a := 65536) (b := n1)) rfl rfl rfl rfl) ?_
 refine lM ?_
 refine T_slot 19 (.bool (decide (65536 < n1))) (.bool false) rfl (congrArg _ (by simp; omega)) ?_
 refine lM ?_
 refine lO (pr_cmp (bo := .gtr) (nc_lt (a := 65536) (b := n2 - 16)) rfl rfl rfl rfl) ?_
 refine lO (pr_pick_f rfl rfl rfl) ?_
 refine lS ?_
 refine L_nil ?_
 refine T_cond_no (t := decide (65536 < n2 - 16)) rfl (by simp; omega) ?_
 refine lT ?_
 refine lM ?_
 refine lO (pr_cmp (bo := .lss) (nc_lt (a := n2 - 16) (b := 0)) rfl rfl rfl rfl) ?_
 refine lS ?_
 refine L_nil ?_
 refine T_cond_f rfl ?_
 refine T_skip ?_
 refine T_seq ?_
 refine T_regD [.blk g2 43 (nonce.map b8), .blk g1 22 (key.map b8), .rd A1 1 n1 c1 (aad.map b8), .rd A2 1 n2 c2 (cs.map b8)] 9 9 #[false, false, false, false, false, false, false, false, false] hF kr kr ?_
 refine D_pure (i := 2) [0, 1, 2, 3] rfl kr rfl (pr_move rfl rfl) (.inr rfl) rfl rfl ?_
 refine D_pure (i := 3) [0, 1, 2, 3] rfl kr rfl (pr_move rfl rfl) (.inr rfl) rfl rfl ?_
 refine D_pure (i := 4) [0, 1, 2, 3] rfl kr rfl (pr_move rfl rfl) (.inr rfl) rfl rfl ?_
 refine D_take (i := 0) [0, 1, 2, 3] rfl kr rfl (ld_agg (ds := (key.map b8)) 1 rfl agg_all Tryz.underlying22 rfl (fwz (n := 32) kr sd) rfl rfl) rfl rfl rfl ?_
 refine D_take (i := 1) [0, 1, 2, 3] rfl kr rfl (ld_agg (ds := (nonce.map b8)) 0 rfl agg_all Tryz.underlying43 rfl (fwz (n := 12) kr sd) rfl rfl) rfl rfl rfl ?_
 refine D_join (T := Nat) (fun _ => True) (fun g7 => [(3, (.slice A2 n2 c2)), (4, (.pointer (some ⟨g1, 0, none⟩))), (5, (.pointer (some ⟨g2, 0, none⟩))), (10, (.int .i64 ((n2 - 16 : Nat) : Int))), (11, (.pointer (some ⟨g7, 0, none⟩)))]) (fun g7 => [.blk g7 62 ((atag key nonce aad (List.take (n2 - 16) cs)).map b8), .blk g2 43 (nonce.map b8), .blk g1 22 (key.map b8), .rd A1 1 n1 c1 (aad.map b8), .rd A2 1 n2 c2 (cs.map b8)]) ?_ ?_
 ·refine D_all [5, 7] kr (by simp) ⟨⟨_, rfl, rfl, ?_⟩, ⟨_, rfl, rfl, ?_⟩, trivial⟩
  ·refine id (op_slice_rd (l := 0) (u := n2 - 16) 3 rfl sd sd Tryz.underlying27 kr rfl rfl rfl ⟨_, rfl⟩ rfl rfl (fun B8 => ?_))
   refine T_as 0 _ (.rd B8 1 (n2 - 16) c2 ((List.take (n2 - 16) cs).map b8)) rfl (by congr 1; simp [List.map_take, List.map_drop] <;> omega) ?_
   refine T_slot 31 _ (.slice B8 (n2 - 16) c2) rfl (by congr 1) ?_
   refine D_on [1, 2, 3, 4] rfl ?_
   refine D_all [6, 7] kr (by simp) ⟨⟨_, rfl, rfl, ?_⟩, ⟨_, rfl, rfl, ?_⟩, trivial⟩
   ·refine id (op_cn (fun w hw => ratag_f key nonce aad (List.take (n2 - 16) cs) A1 n1 c1 B8 (n2 - 16) c2 w (hok_cons ((src_rd 3 rfl) w hw) (hok_cons ((src_rd 0 rfl) w hw) (hok_nil w))) aS aS aS sd sd sd) (enters_of Tryz.func41 kr rfl) rfl rfl rfl rfl rfl (fun t9 q10 => ?_))
    refine D_on [1, 2, 3, 4] rfl ?_
    refine D_one 7 _ rfl kr rfl (op_alloc (z := .agg ((List.replicate 16 0#8).map b8).toArray) (zs := ((List.replicate 16 0#8).map b8)) kr rfl rfl rfl rfl (fun g11 => ?_))
    refine D_on [2, 3, 4, 5] rfl ?_
    refine D_one 8 _ rfl kr rfl (op_sto (n := 16) (vs := ((atag key nonce aad (List.take (n2 - 16) cs)).map b8)) 0 rfl rfl kr (all8_one _) kr sd rfl rfl rfl rfl ?_)
    refine D_on [2, 3, 4, 5] rfl ?_
    refine D_done kr ?_
    exact T_meet g11 trivial (sc rfl (sc rfl (sc rfl (sc rfl (sc rfl sn))))) [0, 2, 3, 4, 5] ⟨by decide, rfl⟩
   refine id (op_alloc (z := .agg ((List.replicate 16 0#8).map b8).toArray) (zs := ((List.replicate 16 0#8).map b8)) kr rfl rfl rfl rfl (fun g12 => ?_))
   refine D_on [2, 3, 4, 5] rfl ?_
   refine D_one 6 _ rfl kr rfl (op_cn (fun w hw => ratag_f key nonce aad (List.take (n2 - 16) cs) A1 n1 c1 B8 (n2 - 16) c2 w (hok_cons ((src_rd 4 rfl) w hw) (hok_cons ((src_rd 1 rfl) w hw) (hok_nil w))) aS aS aS sd sd sd) (enters_of Tryz.func41 kr rfl) rfl rfl rfl rfl rfl (fun t13 q14 => ?_))
   refine D_on [2, 3, 4, 5] rfl ?_
   refine D_one 8 _ rfl kr rfl (op_sto (n := 16) (vs := ((atag key nonce aad (List.take (n2 - 16) cs)).map b8)) 0 rfl rfl kr (all8_one _) kr sd rfl rfl rfl rfl ?_)
   refine D_on [2, 3, 4, 5] rfl ?_
   refine D_done kr ?_
   exact T_meet g12 trivial (sc rfl (sc rfl (sc rfl (sc rfl (sc rfl sn))))) [0, 2, 3, 4, 5] ⟨by decide, rfl⟩
  refine id (op_alloc (z := .agg ((List.replicate 16 0#8).map b8).toArray) (zs := ((List.replicate 16 0#8).map b8)) kr rfl rfl rfl rfl (fun g15 => ?_))
  refine D_on [1, 2, 3, 4] rfl ?_
  refine D_one 5 _ rfl kr rfl (op_slice_rd (l := 0) (u := n2 - 16) 4 rfl sd sd Tryz.underlying27 kr rfl rfl rfl ⟨_, rfl⟩ rfl rfl (fun B16 => ?_))
  refine T_as 0 _ (.rd B16 1 (n2 - 16) c2 ((List.take (n2 - 16) cs).map b8)) rfl (by congr 1; simp [List.map_take, List.map_drop] <;> omega) ?_
  refine T_slot 31 _ (.slice B16 (n2 - 16) c2) rfl (by congr 1) ?_
  refine D_on [2, 3, 4, 5] rfl ?_
  refine D_one 6 _ rfl kr rfl (op_cn (fun w hw => ratag_f key nonce aad (List.take (n2 - 16) cs) A1 n1 c1 B16 (n2 - 16) c2 w (hok_cons ((src_rd 4 rfl) w hw) (hok_cons ((src_rd 0 rfl) w hw) (hok_nil w))) aS aS aS sd sd sd) (enters_of Tryz.func41 kr rfl) rfl rfl rfl rfl rfl (fun t17 q18 => ?_))
  refine D_on [2, 3, 4, 5] rfl ?_
  refine D_one 8 _ rfl kr rfl (op_sto (n := 16) (vs := ((atag key nonce aad (List.take (n2 - 16) cs)).map b8)) 1 rfl rfl kr (all8_one _) kr sd rfl rfl rfl rfl ?_)
  refine D_on [2, 3, 4, 5] rfl ?_
  refine D_done kr ?_
  exact T_meet g15 trivial (sc rfl (sc rfl (sc rfl (sc rfl (sc rfl sn))))) [0, 2, 3, 4, 5] ⟨by decide, rfl⟩
 rintro g7 -
 refine lE [(3, (.slice A2 n2 c2)), (4, (.pointer (some ⟨g1, 0, none⟩))), (5, (.pointer (some ⟨g2, 0, none⟩))), (10, (.int .i64 ((n2 - 16 : Nat) : Int))), (11, (.pointer (some ⟨g7, 0, none⟩)))] ?_
 refine lH [0, 1, 2, 3, 4] [.blk g7 62 ((atag key nonce aad (List.take (n2 - 16) cs)).map b8), .blk g2 43 (nonce.map b8), .blk g1 22 (key.map b8), .rd A1 1 n1 c1 (aad.map b8), .rd A2 1 n2 c2 (cs.map b8)] ?_
 refine T_seq ?_
 refine T_seq ?_
 refine T_regD [.blk g7 62 ((atag key nonce aad (List.take (n2 - 16) cs)).map b8), .blk g2 43 (nonce.map b8), .blk g1 22 (key.map b8), .rd A1 1 n1 c1 (aad.map b8), .rd A2 1 n2 c2 (cs.map b8)] 7 7 #[false, false, false, false, false, false, false] hF kr kr ?_
 refine D_pure (i := 0) [0, 1, 2, 3, 4] rfl kr rfl (pr_sla (l := 0) (u := 16) (m := 0) sd sd sd rfl Tryz.underlying62 (z := 1) kr rfl rfl rfl rfl) (.inr rfl) rfl rfl ?_
 refine D_pure (i := 2) [0, 1, 2, 3, 4] rfl kr rfl (pr_move rfl rfl) (.inr rfl) rfl rfl ?_
 refine D_pure (i := 3) [0, 1, 2, 3, 4] rfl kr rfl (pr_move rfl rfl) (.inr rfl) rfl rfl ?_
 refine D_take (i := 1) [0, 1, 2, 3, 4] rfl kr rfl (ld_str (xs := (atag key nonce aad (List.take (n2 - 16) cs))) (src_full (z := 1) 0 rfl sd sd sd) Tryz.underlying27 Tryz.underlying5 Tryz.underlying9 rfl rfl) rfl rfl rfl ?_
 refine D_one 4 _ rfl kr rfl (op_slice_rd (l := n2 - 16) (u := n2) 4 rfl sd sd Tryz.underlying27 kr rfl rfl ⟨_, rfl⟩ rfl rfl rfl (fun B19 => ?_))
 refine T_as 0 _ (.rd B19 1 (n2 - (n2 - 16)) (c2 - (n2 - 16)) ((List.drop (n2 - 16) cs).map b8)) rfl (by congr 1; first | rfl | (rw [List.take_of_length_le (by simp; omega)]; simp)) ?_
 refine T_as 0 _ (.rd B19 1 16 (c2 - (n2 - 16)) ((List.drop (n2 - 16) cs).map b8)) rfl (by rw [show n2 - (n2 - 16) = 16 by omega]) ?_
 refine T_slot 37 (.slice B19 (n2 - (n2 - 16)) (c2 - (n2 - 16))) (.slice B19 16 (c2 - (n2 - 16))) rfl (by rw [show n2 - (n2 - 16) = 16 by omega]) ?_
 refine D_on [1, 2, 3, 4, 5] rfl ?_
 refine D_one 5 _ rfl kr rfl (op_ld (ld_str (xs := (List.drop (n2 - 16) cs)) (src_rd 0 rfl) Tryz.underlying27 Tryz.underlying5 Tryz.underlying9 rfl rfl) rfl rfl ?_)
 refine D_on [1, 2, 3, 4, 5] rfl ?_
 refine D_pure (i := 6) [1, 2, 3, 4, 5] rfl kr rfl (pr_strne rfl rfl rfl) (.inr rfl) rfl rfl ?_
 refine D_done kr ?_
 refine T_cond_yes (t := !decide ((atag key nonce aad (List.take (n2 - 16) cs)) = (List.drop (n2 - 16) cs))) rfl (by simp; exact fun e => hg ((agood_iff key nonce aad cs n2 h2).2 e)) ?_
 refine lT ?_
 refine lS ?_
 refine lS ?_
 refine L_nil ?_
 refine T_ret ?_
 exact T_fin () qN (res2 rfl rfl rfl) [] ⟨by decide, rfl⟩ rfl
set_option maxRecDepth 100000 in
set_option maxHeartbeats 4000000 in
theorem ropen_short_f (key : List (BitVec 8)) (nonce : List (BitVec 8)) (aad : List (BitVec 8)) (cs : List (BitVec 8)) (A1 : Option Addr) (n1 : Nat) (c1 : Nat) (A2 : Option Addr) (n2 : Nat) (c2 : Nat) (w : World) (hO : HOK [.rd A1 1 n1 c1 (aad.map b8), .rd A2 1 n2 c2 (cs.map b8)] w) (hk : key.length = 32) (hn : nonce.length = 12) (h1 : aad.length = n1) (h2 : cs.length = n2) (h3 : n1 ≤ 65536) (h4 : n2 < 16) : Calls Tryz.prog 26 [(.agg (key.map b8).toArray), (.agg (nonce.map b8).toArray), (.slice A1 n1 c1), (.slice A2 n2 c2)].toArray w (Ret (T := Unit) [] w (fun _ => True) (fun _ => (.tuple [(.slice none 0 0), (.int .i64 ((3 : Nat) : Int))].toArray)) (fun _ => [])) := by
 refine enter (c := _) Tryz.func26 rfl [] _ [.rd A1 1 n1 c1 (aad.map b8), .rd A2 1 n2 c2 (cs.map b8)] (by rw [Tryz.ntmps26]; rfl) (own_rds hO rfl) ?_
 rw [Tryz.ntmps26]
 refine lE [(0, (.agg (key.map b8).toArray)), (1, (.agg (nonce.map b8).toArray)), (2, (.slice A1 n1 c1)), (3, (.slice A2 n2 c2))] ?_
 refine lH [0, 1] [.rd A1 1 n1 c1 (aad.map b8), .rd A2 1 n2 c2 (cs.map b8)] ?_
 refine lT ?_
 refine L_op rfl (op_box (zs := (key.map b8)) rfl rfl rfl rfl rfl (fun g1 => ?_))
 refine L_op rfl (op_box (zs := (nonce.map b8)) rfl rfl rfl rfl rfl (fun g2 => ?_))
 refine lS ?_
 refine lS ?_
 refine lN ?_
 refine lM ?_
 refine lO (pr_len_sl Tryz.underlying27 rfl rfl) ?_
 refine lO (pr_sub (zw_i64 (z := (((n2 : Nat) : Int) - ((16 : Nat) : Int))) sd) rfl rfl rfl) ?_
 refine lS ?_
 refine L_nil ?_
 refine T_seq ?_
 refine T_block ?_
 refine lT ?_
 refine lM ?_
 refine lO (pr_len_sl Tryz.underlying27 rfl rfl) ?_
 refine lO (pr_cmp (bo := .gtr) (nc_lt (a := 65536) (b := n1)) rfl rfl rfl rfl) ?_
 refine lM ?_
 refine T_slot 19 (.bool (decide (65536 < n1))) (.bool false) rfl (congrArg _ (by simp; omega)) ?_
 refine lM ?_
 refine lO (pr_cmp (bo := .gtr) (k := .i64) (a := (((n2 : Nat) : Int) - ((16 : Nat) : Int))) (b := ((65536 : Nat) : Int)) (c := decide (((65536 : Nat) : Int) < (((n2 : Nat) : Int) - ((16 : Nat) : Int)))) rfl rfl rfl rfl rfl) ?_
 refine lO (pr_pick_f rfl rfl rfl) ?_
 refine lS ?_
 refine L_nil ?_
 refine T_cond_no (t := decide (((65536 : Nat) : Int) < (((n2 : Nat) : Int) - ((16 : Nat) : Int)))) rfl (by simp; omega) ?_
 refine lT ?_
 refine lM ?_
 refine lO (pr_cmp (bo := .lss) (k := .i64) (a := (((n2 : Nat) : Int) - ((16 : Nat) : Int))) (b := ((0 : Nat) : Int)) (c := decide ((((n2 : Nat) : Int) - ((16 : Nat) : Int)) < ((0 : Nat) : Int))) rfl rfl rfl rfl rfl) ?_
 refine lS ?_
 refine L_nil ?_
 refine T_cond_yes (t := decide ((((n2 : Nat) : Int) - ((16 : Nat) : Int)) < ((0 : Nat) : Int))) rfl (by simp; omega) ?_
 refine lT ?_
 refine lS ?_
 refine lS ?_
 refine L_nil ?_
 refine T_ret ?_
 exact T_fin () qN (res2 rfl rfl rfl) [] ⟨by decide, rfl⟩ rfl
end Go.Proofs.YtlplpmkdebemnaaGreat
namespace Go.Proofs.YtlplpmkdebemnaaGreat
set_option maxRecDepth 100000
open Go.RowKit Bv Fw
def pkey (job : List (BitVec 8)) (pp pr pa : BitVec 64) : List (BitVec 8) := kof job ([112#8, 108#8, 97#8, 99#8, 101#8] ++ eights [pp, pr, pa])
theorem pkey_def (job : List (BitVec 8)) (pp pr pa : BitVec 64) : kof job ([112#8, 108#8, 97#8, 99#8, 101#8] ++ eights [pp, pr, pa]) = pkey job pp pr pa := rfl
theorem pkey_len (job : List (BitVec 8)) (pp pr pa : BitVec 64) : (pkey job pp pr pa).length = 32 := kof_len _ _
attribute [irreducible] pkey
def paad (pp pr pa pt pi : BitVec 64) (q : Nat) : List (BitVec 8) := eights [pp, pr, pa, pt, pi, BitVec.ofNat 64 (32 * q)]
theorem paad_def (pp pr pa pt pi : BitVec 64) (q : Nat) : eights [pp, pr, pa, pt, pi, BitVec.ofNat 64 (32 * q)] = paad pp pr pa pt pi q := rfl
theorem paad_len (pp pr pa pt pi : BitVec 64) (q : Nat) : (paad pp pr pa pt pi q).length = 48 := eights_six _ _ _ _ _ _
attribute [irreducible] paad
theorem ptake {a b : List (BitVec 8)} (h : a.length = 32) : List.take 32 (a ++ b) = a := List.take_left' h
theorem pdrop {a b : List (BitVec 8)} (h : a.length = 32) (h2 : b.length = 12) : List.take 12 (List.drop 32 (a ++ b)) = b := by rw [List.drop_left' h, List.take_of_length_le oM]
theorem bpe_q {n q : Nat} (h1 : 1 ≤ q) (h8 : q ≤ 8) (h : n ≤ q) : bpe n ((q : Nat) : Int) = 0 := bpe_ok oM oM oM
theorem bpl_q {n q : Nat} (h1 : 1 ≤ q) (h8 : q ≤ 8) (h : n ≤ q) : bpl n ((q : Nat) : Int) = 32 * q := by rw [bpl_ok rfl oM oM oM]; omega
theorem mayb_q {q : Nat} (h1 : 1 ≤ q) (h8 : q ≤ 8) : mayb ((q : Nat) : Int) = true := by unfold mayb; simp; omega
theorem low_lowb (v : BitVec 64) : low (lowb v 8) 8 = v := by
  apply BitVec.eq_of_toNat_eq
  rw [low_toNat _ 8 oM (by rw [lowb_len]; omega), List.take_of_length_le (by rw [lowb_len]; omega), lowb_dig v 8 oM, vw_dig 8 8 _ oM]
  have := v.isLt
  have p8 : (256 : Nat) ^ 8 = 18446744073709551616 := rfl
  omega
theorem eights_drop : ∀ (k : Nat) (xs : List (BitVec 64)), List.drop (8 * k) (eights xs) = eights (xs.drop k)
  | 0, xs => rfl
  | k + 1, [] => by simp [eights]
  | k + 1, x :: xs => by
    rw [eights, show 8 * (k + 1) = 8 + 8 * k by omega, ← List.drop_drop, List.drop_left' (lowb_len x 8), eights_drop k xs]; rfl
theorem wds_eights (xs : List (BitVec 64)) : ∀ k, k ≤ xs.length → wds (eights xs) k = xs.take k
  | 0, _ => by simp [wds]
  | k + 1, h => by
    rw [wds, wds_eights xs k oM, eights_drop, List.drop_eq_getElem_cons oM, eights, List.take_left' (lowb_len _ 8), low_lowb, List.take_succ_eq_append_getElem oM]
def rnorm (r : Rc) : Rc := if r.d then rdead else r
theorem rte_rpk (r : Rc) : rte (rpk r) = 0 := by
  refine rte_ok (rpk_len r) ?_
  unfold rpk
  split
  · rw [wds_eights _ 4 (Nat.le_refl _)]; unfold RBad; decide
  · rw [wds_eights _ 4 (Nat.le_refl _)]
    rintro (h | ⟨h, _⟩)
    · exact absurd h (by show ¬ 1#64 < 0#64; decide)
    · exact absurd h (by show ¬ 0#64 = 1#64; decide)
theorem rtk_rpk (r : Rc) : rtk (rpk r) = rnorm r := by
  rw [rtk_ok (rte_rpk r)]
  unfold rpk rnorm
  split
  · rw [wds_eights _ 4 (Nat.le_refl _)]; rfl
  · rename_i h
    rw [wds_eights _ 4 (Nat.le_refl _)]
    obtain ⟨d, k, v, s⟩ := r
    cases d
    · rfl
    · exact absurd rfl h
theorem pkl_drop : ∀ (k : Nat) (xs : List Rc), List.drop (32 * k) (pkl xs) = pkl (xs.drop k)
  | 0, xs => rfl
  | k + 1, [] => by simp [pkl]
  | k + 1, x :: xs => by
    rw [pkl, show 32 * (k + 1) = 32 + 32 * k by omega, ← List.drop_drop, List.drop_left' (rpk_len x), pkl_drop k xs]; rfl
theorem chk_pkl (xs : List Rc) (k : Nat) (h : k < xs.length) : chk (pkl xs) k = rpk xs[k] := by
  unfold chk
  rw [pkl_drop, List.drop_eq_getElem_cons h, pkl, List.take_left' (rpk_len _)]
theorem tke_pkl (xs : List Rc) : ∀ k, k ≤ xs.length → tke (pkl xs) k = 0
  | 0, _ => rfl
  | k + 1, h => by rw [tke, if_pos (tke_pkl xs k oM), chk_pkl xs k oM, rte_rpk]
theorem tks_pkl (xs : List Rc) : ∀ k, k ≤ xs.length → tks (pkl xs) k = (xs.take k).map rnorm
  | 0, _ => by simp [tks]
  | k + 1, h => by rw [tks, tks_pkl xs k oM, chk_pkl xs k oM, rtk_rpk, List.take_succ_eq_append_getElem oM, List.map_append]; rfl
theorem bte_bpb {xs : List Rc} {n q : Nat} (hx : xs.length = n) (h1 : 1 ≤ q) (h8 : q ≤ 8) (h : n ≤ q) : bte (bpb xs ((q : Nat) : Int)) ((q : Nat) : Int) = 0 := by
  have hl : (xs ++ List.replicate (q - n) rdead).length = q := by simp [hx]; omega
  rw [bpb_ok hx rfl oM oM oM, bte_ok (q := q) oM oM rfl (by rw [pkl_len, hl])]
  exact tke_pkl _ q oM
theorem btk_bpb {xs : List Rc} {n q : Nat} (hx : xs.length = n) (h1 : 1 ≤ q) (h8 : q ≤ 8) (h : n ≤ q) : btk (bpb xs ((q : Nat) : Int)) ((q : Nat) : Int) = (xs ++ List.replicate (q - n) rdead).map rnorm := by
  have hl : (xs ++ List.replicate (q - n) rdead).length = q := by simp [hx]; omega
  rw [btk_ok (bte_bpb hx h1 h8 h) rfl, bpb_ok hx rfl oM oM oM, tks_pkl _ q oM, List.take_of_length_le oM]
set_option maxHeartbeats 4000000 in
theorem buse_f (job : List (BitVec 8)) (pp : BitVec 64) (pr : BitVec 64) (pa : BitVec 64) (pt : BitVec 64) (pi : BitVec 64) (w : World) (hO : HOK [] w) (hj : job.length = 32) : Calls Tryz.prog 14 [(.agg (job.map b8).toArray), (.agg [(.int .i64 (i64 pp)), (.int .i64 (i64 pr)), (.int .i64 (i64 pa)), (b64 pt), (.int .i64 (i64 pi))].toArray)].toArray w (Ret (T := Unit) [] w (fun _ => True) (fun _ => (.agg (((pkey job pp pr pa) ++ (nonc pt pi)).map b8).toArray)) (fun _ => [])) := by
 have hpk := pkey_len job pp pr pa
 have hnn := nonc_len pt pi
 have huu : ((pkey job pp pr pa) ++ (nonc pt pi)).length = 44 := by rw [List.length_append, hpk, hnn]
 have hF : Wid Fence.wide := wid_wide
 refine enter (c := _) Tryz.func14 rfl [] _ [] (by rw [Tryz.ntmps14]; rfl) (own_rds hO rfl) ?_
 rw [Tryz.ntmps14]
 refine lE [(0, (.agg (job.map b8).toArray)), (1, (.agg [(.int .i64 (i64 pp)), (.int .i64 (i64 pr)), (.int .i64 (i64 pa)), (b64 pt), (.int .i64 (i64 pi))].toArray))] ?_
 refine lH [] [] ?_
 refine lT ?_
 refine L_op rfl (op_box (zs := (job.map b8)) rfl rfl rfl rfl rfl (fun g1 => ?_))
 refine L_op rfl (op_box (zs := [(.int .i64 (i64 pp)), (.int .i64 (i64 pr)), (.int .i64 (i64 pa)), (b64 pt), (.int .i64 (i64 pi))]) rfl rfl rfl rfl rfl (fun g2 => ?_))
 refine L_op rfl (op_alloc (z := .agg [(b8 (0#8)), (b8 (0#8)), (b8 (0#8)), (b8 (0#8)), (b8 (0#8)), (b8 (0#8)), (b8 (0#8)), (b8 (0#8)), (b8 (0#8)), (b8 (0#8)), (b8 (0#8)), (b8 (0#8)), (b8 (0#8)), (b8 (0#8)), (b8 (0#8)), (b8 (0#8)), (b8 (0#8)), (b8 (0#8)), (b8 (0#8)), (b8 (0#8)), (b8 (0#8)), (b8 (0#8)), (b8 (0#8)), (b8 (0#8)), (b8 (0#8)), (b8 (0#8)), (b8 (0#8)), (b8 (0#8)), (b8 (0#8)), (b8 (0#8)), (b8 (0#8)), (b8 (0#8)), (b8 (0#8)), (b8 (0#8)), (b8 (0#8)), (b8 (0#8)), (b8 (0#8)), (b8 (0#8)), (b8 (0#8)), (b8 (0#8)), (b8 (0#8)), (b8 (0#8)), (b8 (0#8)), (b8 (0#8))].toArray) (zs := [(b8 (0#8)), (b8 (0#8)), (b8 (0#8)), (b8 (0#8)), (b8 (0#8)), (b8 (0#8)), (b8 (0#8)), (b8 (0#8)), (b8 (0#8)), (b8 (0#8)), (b8 (0#8)), (b8 (0#8)), (b8 (0#8)), (b8 (0#8)), (b8 (0#8)), (b8 (0#8)), (b8 (0#8)), (b8 (0#8)), (b8 (0#8)), (b8 (0#8)), (b8 (0#8)), (b8 (0#8)), (b8 (0#8)), (b8 (0#8)), (b8 (0#8)), (b8 (0#8)), (b8 (0#8)), (b8 (0#8)), (b8 (0#8)), (b8 (0#8)), (b8 (0#8)), (b8 (0#8)), (b8 (0#8)), (b8 (0#8)), (b8 (0#8)), (b8 (0#8)), (b8 (0#8)), (b8 (0#8)), (b8 (0#8)), (b8 (0#8)), (b8 (0#8)), (b8 (0#8)), (b8 (0#8)), (b8 (0#8))]) kr rfl rfl rfl rfl (fun g3 => ?_))
 refine L_nil ?_
 refine T_seq ?_
 refine T_regD [.blk g3 45 [(b8 (0#8)), (b8 (0#8)), (b8 (0#8)), (b8 (0#8)), (b8 (0#8)), (b8 (0#8)), (b8 (0#8)), (b8 (0#8)), (b8 (0#8)), (b8 (0#8)), (b8 (0#8)), (b8 (0#8)), (b8 (0#8)), (b8 (0#8)), (b8 (0#8)), (b8 (0#8)), (b8 (0#8)), (b8 (0#8)), (b8 (0#8)), (b8 (0#8)), (b8 (0#8)), (b8 (0#8)), (b8 (0#8)), (b8 (0#8)), (b8 (0#8)), (b8 (0#8)), (b8 (0#8)), (b8 (0#8)), (b8 (0#8)), (b8 (0#8)), (b8 (0#8)), (b8 (0#8)), (b8 (0#8)), (b8 (0#8)), (b8 (0#8)), (b8 (0#8)), (b8 (0#8)), (b8 (0#8)), (b8 (0#8)), (b8 (0#8)), (b8 (0#8)), (b8 (0#8)), (b8 (0#8)), (b8 (0#8))], .blk g2 25 [(.int .i64 (i64 pp)), (.int .i64 (i64 pr)), (.int .i64 (i64 pa)), (b64 pt), (.int .i64 (i64 pi))], .blk g1 22 (job.map b8)] 9 10 #[false, false, false, false, false, false, false, false, false, false] hF kr kr ?_
 refine D_pure (i := 3) [0, 1, 2] rfl kr rfl (pr_fa (m := 0) (m' := 3) (z := 0) (by rfl) Tryz.underlying25 rfl kr rfl rfl) (.inr rfl) rfl rfl ?_
 refine D_pure (i := 5) [0, 1, 2] rfl kr rfl (pr_fa (m := 0) (m' := 4) (z := 0) (by rfl) Tryz.underlying25 rfl kr rfl rfl) (.inr rfl) rfl rfl ?_
 refine D_take (i := 0) [0, 1, 2] rfl kr rfl (ld_agg (ds := (job.map b8)) 2 rfl agg_all Tryz.underlying22 rfl (fwz (n := 32) kr sd) rfl rfl) rfl rfl rfl ?_
 refine D_take (i := 1) [0, 1, 2] rfl kr rfl (ld_agg (ds := [(.int .i64 (i64 pp)), (.int .i64 (i64 pr)), (.int .i64 (i64 pa)), (b64 pt), (.int .i64 (i64 pi))]) 1 rfl agg_all Tryz.underlying25 rfl kr rfl rfl) rfl rfl rfl ?_
 refine D_take (i := 4) [0, 1, 2] rfl kr rfl (ld_blk 1 rfl rfl Tryz.underlying23 rfl rfl rfl) rfl rfl rfl ?_
 refine D_take (i := 6) [0, 1, 2] rfl kr rfl (ld_blk 1 rfl rfl Tryz.underlying3 rfl rfl rfl) rfl rfl rfl ?_
 refine D_one 2 _ rfl kr rfl (op_cn (fun w hw => kplace_f job pp pr pa pt pi w (hok_nil w) aS) (enters_of Tryz.func33 kr rfl) rfl rfl rfl rfl rfl (fun t4 q5 => ?_))
 refine T_slot 7 _ (.agg ((pkey job pp pr pa).map b8).toArray) rfl (by rw [pkey_def]) ?_
 refine D_on [0, 1, 2] rfl ?_
 refine D_one 7 _ rfl kr rfl (op_cn (fun w hw => knonce_f pt pi w (hok_nil w) ) (enters_of Tryz.func34 kr rfl) rfl rfl rfl rfl rfl (fun t6 q7 => ?_))
 refine D_on [0, 1, 2] rfl ?_
 refine D_pure (i := 8) [0, 1, 2] rfl kr rfl (pr_build (qs := [(0, (.agg ((pkey job pp pr pa).map b8).toArray)), (1, (.agg ((nonc pt pi).map b8).toArray))]) (v := .agg (((pkey job pp pr pa) ++ (nonc pt pi)).map b8).toArray) (fun _ => run_build2b (n := 32) (m := 12) Tryz.underlying45 (z := .agg [(b8 (0#8)), (b8 (0#8)), (b8 (0#8)), (b8 (0#8)), (b8 (0#8)), (b8 (0#8)), (b8 (0#8)), (b8 (0#8)), (b8 (0#8)), (b8 (0#8)), (b8 (0#8)), (b8 (0#8)), (b8 (0#8)), (b8 (0#8)), (b8 (0#8)), (b8 (0#8)), (b8 (0#8)), (b8 (0#8)), (b8 (0#8)), (b8 (0#8)), (b8 (0#8)), (b8 (0#8)), (b8 (0#8)), (b8 (0#8)), (b8 (0#8)), (b8 (0#8)), (b8 (0#8)), (b8 (0#8)), (b8 (0#8)), (b8 (0#8)), (b8 (0#8)), (b8 (0#8)), (b8 (0#8)), (b8 (0#8)), (b8 (0#8)), (b8 (0#8)), (b8 (0#8)), (b8 (0#8)), (b8 (0#8)), (b8 (0#8)), (b8 (0#8)), (b8 (0#8)), (b8 (0#8)), (b8 (0#8))].toArray) kr rfl rfl rfl kr kr sd sd) rfl rfl) (.inr rfl) rfl rfl ?_
 refine D_one 9 _ rfl kr rfl (op_sto (n := 44) (vs := (((pkey job pp pr pa) ++ (nonc pt pi)).map b8)) 0 rfl rfl kr (all8_one _) kr sd rfl rfl rfl rfl ?_)
 refine D_past kr ?_
 refine D_done kr ?_
 refine T_ret ?_
 exact T_fin () qN (resb 0 rfl rfl rfl Tryz.underlying45 rfl (fwz (n := 44) kr sd)) [] ⟨by decide, rfl⟩ rfl
set_option maxRecDepth 100000 in
set_option maxHeartbeats 4000000 in
theorem bseal_f (job : List (BitVec 8)) (pp : BitVec 64) (pr : BitVec 64) (pa : BitVec 64) (pt : BitVec 64) (pi : BitVec 64) (xs : List Rc) (A : Option Addr) (n : Nat) (c : Nat) (q : Nat) (w : World) (hO : HOK [.rd A 4 n c (rcs xs)] w) (hj : job.length = 32) (hx : xs.length = n) (hq1 : 1 ≤ q) (hq8 : q ≤ 8) (hnq : n ≤ q) : Calls Tryz.prog 6 [(.agg (job.map b8).toArray), (.agg [(.int .i64 (i64 pp)), (.int .i64 (i64 pr)), (.int .i64 (i64 pa)), (b64 pt), (.int .i64 (i64 pi))].toArray), (.slice A n c), (.int .i64 ((q : Nat) : Int))].toArray w (Ret (T := Option Addr × Nat) [] w (fun ⟨B, d⟩ => True) (fun ⟨B, d⟩ => (.tuple [(.slice B (32 * q + 16) d), (.int .i64 ((0 : Nat) : Int))].toArray)) (fun ⟨B, d⟩ => [.row (.slice B (32 * q + 16) d) 5 1 (32 * q + 16) ((aseal (pkey job pp pr pa) (nonc pt pi) (paad pp pr pa pt pi q) (bpb xs ((q : Nat) : Int))).map b8)])) := by
 have hpk := pkey_len job pp pr pa
 have hnn := nonc_len pt pi
 have huu : ((pkey job pp pr pa) ++ (nonc pt pi)).length = 44 := by rw [List.length_append, hpk, hnn]
 have haa := paad_len pp pr pa pt pi q
 have hbl := bpl_q hq1 hq8 hnq
 have hbe := bpe_q hq1 hq8 hnq
 have hpl : (bpb xs ((q : Nat) : Int)).length = 32 * q := (bpb_len hx).trans hbl
 have hF : Wid Fence.wide := wid_wide
 refine enter (c := _) Tryz.func6 rfl [] _ [.rd A 4 n c (rcs xs)] (by rw [Tryz.ntmps6]; rfl) (own_rds hO rfl) ?_
 rw [Tryz.ntmps6]
 refine lE [(0, (.agg (job.map b8).toArray)), (1, (.agg [(.int .i64 (i64 pp)), (.int .i64 (i64 pr)), (.int .i64 (i64 pa)), (b64 pt), (.int .i64 (i64 pi))].toArray)), (2, (.slice A n c)), (3, (.int .i64 ((q : Nat) : Int)))] ?_
 refine lH [0] [.rd A 4 n c (rcs xs)] ?_
 refine lT ?_
 refine L_op rfl (op_box (zs := (job.map b8)) rfl rfl rfl rfl rfl (fun g1 => ?_))
 refine L_op rfl (op_box (zs := [(.int .i64 (i64 pp)), (.int .i64 (i64 pr)), (.int .i64 (i64 pa)), (b64 pt), (.int .i64 (i64 pi))]) rfl rfl rfl rfl rfl (fun g2 => ?_))
 refine lS ?_
 refine lS ?_
 refine lN ?_
 refine lM ?_
 refine lM ?_
 refine L_op rfl (op_cn (fun w hw => bpack_f xs ((q : Nat) : Int) A n c w (hok_cons ((src_rd 2 rfl) w hw) (hok_nil w)) sd sd) (enters_of Tryz.func13 kr rfl) rfl rfl rfl rfl rfl (fun t3 q4 => ?_))
 obtain ⟨B5, e6⟩ := t3
 refine lM ?_
 refine lO (pr_ext (vs := [(.slice B5 (bpl n ((q : Nat) : Int)) e6), (.int .i64 (((bpe n ((q : Nat) : Int)) : Nat) : Int))]) rfl rfl rfl) ?_
 refine T_slot 17 (.slice B5 (bpl n ((q : Nat) : Int)) e6) (.slice B5 (32 * q) e6) rfl (by rw [hbl]) ?_
 refine T_as 0 _ (.row (.slice B5 (32 * q) e6) 5 1 (32 * q) ((bpb xs ((q : Nat) : Int)).map b8)) rfl (by rw [hbl]) ?_
 refine lO (pr_ext (vs := [(.slice B5 (bpl n ((q : Nat) : Int)) e6), (.int .i64 (((bpe n ((q : Nat) : Int)) : Nat) : Int))]) rfl rfl rfl) ?_
 refine T_slot 18 (.int .i64 (((bpe n ((q : Nat) : Int)) : Nat) : Int)) (.int .i64 ((0 : Nat) : Int)) rfl (by rw [hbe]) ?_
 refine lS ?_
 refine lS ?_
 refine L_nil ?_
 refine T_seq ?_
 refine lT ?_
 refine lM ?_
 refine lO (pr_cmp (bo := .neq) (nc_ne (a := 0) (b := 0)) rfl rfl rfl rfl) ?_
 refine L_nil ?_
 refine T_cond_f rfl ?_
 refine T_skip ?_
 refine lT ?_
 refine lQ (ld_agg (ds := (job.map b8)) 2 rfl agg_all Tryz.underlying22 rfl (fwz (n := 32) kr sd) rfl rfl) ?_
 refine lQ (ld_agg (ds := [(.int .i64 (i64 pp)), (.int .i64 (i64 pr)), (.int .i64 (i64 pa)), (b64 pt), (.int .i64 (i64 pi))]) 1 rfl agg_all Tryz.underlying25 rfl kr rfl rfl) ?_
 refine L_op rfl (op_cn (fun w hw => buse_f job pp pr pa pt pi w (hok_nil w) aS) (enters_of Tryz.func14 kr rfl) rfl rfl rfl rfl rfl (fun t7 q8 => ?_))
 refine L_op rfl (op_alloc (z := .agg [(b8 (0#8)), (b8 (0#8)), (b8 (0#8)), (b8 (0#8)), (b8 (0#8)), (b8 (0#8)), (b8 (0#8)), (b8 (0#8)), (b8 (0#8)), (b8 (0#8)), (b8 (0#8)), (b8 (0#8)), (b8 (0#8)), (b8 (0#8)), (b8 (0#8)), (b8 (0#8)), (b8 (0#8)), (b8 (0#8)), (b8 (0#8)), (b8 (0#8)), (b8 (0#8)), (b8 (0#8)), (b8 (0#8)), (b8 (0#8)), (b8 (0#8)), (b8 (0#8)), (b8 (0#8)), (b8 (0#8)), (b8 (0#8)), (b8 (0#8)), (b8 (0#8)), (b8 (0#8)), (b8 (0#8)), (b8 (0#8)), (b8 (0#8)), (b8 (0#8)), (b8 (0#8)), (b8 (0#8)), (b8 (0#8)), (b8 (0#8)), (b8 (0#8)), (b8 (0#8)), (b8 (0#8)), (b8 (0#8))].toArray) (zs := [(b8 (0#8)), (b8 (0#8)), (b8 (0#8)), (b8 (0#8)), (b8 (0#8)), (b8 (0#8)), (b8 (0#8)), (b8 (0#8)), (b8 (0#8)), (b8 (0#8)), (b8 (0#8)), (b8 (0#8)), (b8 (0#8)), (b8 (0#8)), (b8 (0#8)), (b8 (0#8)), (b8 (0#8)), (b8 (0#8)), (b8 (0#8)), (b8 (0#8)), (b8 (0#8)), (b8 (0#8)), (b8 (0#8)), (b8 (0#8)), (b8 (0#8)), (b8 (0#8)), (b8 (0#8)), (b8 (0#8)), (b8 (0#8)), (b8 (0#8)), (b8 (0#8)), (b8 (0#8)), (b8 (0#8)), (b8 (0#8)), (b8 (0#8)), (b8 (0#8)), (b8 (0#8)), (b8 (0#8)), (b8 (0#8)), (b8 (0#8)), (b8 (0#8)), (b8 (0#8)), (b8 (0#8)), (b8 (0#8))]) kr rfl rfl rfl rfl (fun g9 => ?_))
 refine L_op rfl (op_sto (n := 44) (vs := (((pkey job pp pr pa) ++ (nonc pt pi)).map b8)) 0 rfl rfl kr (all8_one _) kr sd rfl rfl rfl rfl ?_)
 refine L_nil ?_
 refine T_seq ?_
 refine T_regD [.blk g9 45 (((pkey job pp pr pa) ++ (nonc pt pi)).map b8), .row (.slice B5 (32 * q) e6) 5 1 (32 * q) ((bpb xs ((q : Nat) : Int)).map b8), .blk g2 25 [(.int .i64 (i64 pp)), (.int .i64 (i64 pr)), (.int .i64 (i64 pa)), (b64 pt), (.int .i64 (i64 pi))], .blk g1 22 (job.map b8), .rd A 4 n c (rcs xs)] 14 14 #[false, false, false, false, false, false, false, false, false, false, false, false, false, false] hF kr kr ?_
 refine D_pure (i := 0) [0, 1, 2, 3, 4] rfl kr rfl (pr_fa (m := 0) (m' := 0) (z := 31) (by rfl) Tryz.underlying45 rfl kr rfl rfl) (.inr rfl) rfl rfl ?_
 refine D_pure (i := 2) [0, 1, 2, 3, 4] rfl kr rfl (pr_fa (m := 0) (m' := 32) (z := 11) (by rfl) Tryz.underlying45 rfl kr rfl rfl) (.inr rfl) rfl rfl ?_
 refine D_pure (i := 5) [0, 1, 2, 3, 4] rfl kr rfl (pr_move rfl rfl) (.inr rfl) rfl rfl ?_
 refine D_pure (i := 6) [0, 1, 2, 3, 4] rfl kr rfl (pr_len_sl Tryz.underlying27 rfl rfl) (.inr rfl) rfl rfl ?_
 refine D_pure (i := 8) [0, 1, 2, 3, 4] rfl kr rfl (pr_move rfl rfl) (.inr rfl) rfl rfl ?_
 refine D_take (i := 1) [0, 1, 2, 3, 4] rfl kr rfl (ld_agg (ds := ((List.take 32 ((pkey job pp pr pa) ++ (nonc pt pi))).map b8)) 0 rfl (by simp [List.map_take, List.map_drop]) Tryz.underlying22 rfl (fwz (n := 32) kr sd) rfl rfl) rfl rfl rfl ?_
 refine T_slot 26 _ (.agg ((pkey job pp pr pa).map b8).toArray) rfl (by rw [ptake hpk]) ?_
 refine D_take (i := 3) [0, 1, 2, 3, 4] rfl kr rfl (ld_agg (ds := ((List.take 12 (List.drop 32 ((pkey job pp pr pa) ++ (nonc pt pi)))).map b8)) 0 rfl (by simp [List.map_take, List.map_drop]) Tryz.underlying43 rfl (fwz (n := 12) kr sd) rfl rfl) rfl rfl rfl ?_
 refine T_slot 28 _ (.agg ((nonc pt pi).map b8).toArray) rfl (by rw [pdrop hpk hnn]) ?_
 refine D_take (i := 4) [0, 1, 2, 3, 4] rfl kr rfl (ld_agg (ds := [(.int .i64 (i64 pp)), (.int .i64 (i64 pr)), (.int .i64 (i64 pa)), (b64 pt), (.int .i64 (i64 pi))]) 2 rfl agg_all Tryz.underlying25 rfl kr rfl rfl) rfl rfl rfl ?_
 refine D_one 7 _ rfl kr rfl (op_cn (fun w hw => kaad_f pp pr pa pt pi (32 * q) w (hok_nil w) sd) (enters_of Tryz.func16 kr rfl) rfl rfl rfl rfl rfl (fun t10 q11 => ?_))
 obtain ⟨B12, d13⟩ := t10
 refine T_as 0 _ (.old B12 1 48 d13 ((paad pp pr pa pt pi q).map b8)) rfl (by rw [paad_def]) ?_
 refine D_on [1, 2, 3, 4, 5] rfl ?_
 refine D_one 9 _ rfl kr rfl (op_cn (fun w hw => seal_f (pkey job pp pr pa) (nonc pt pi) (paad pp pr pa pt pi q) (bpb xs ((q : Nat) : Int)) B12 48 d13 B5 (32 * q) e6 w (hok_cons ((src_old 0 rfl) w hw) (hok_cons ((src_row 2 rfl) w hw) (hok_nil w))) aS aS aS hpl sd sd) (enters_of Tryz.func15 kr rfl) rfl rfl rfl rfl rfl (fun t14 q15 => ?_))
 obtain ⟨B16, d17⟩ := t14
 refine D_on [2, 3, 4, 5, 6] rfl ?_
 refine D_pure (i := 10) [2, 3, 4, 5, 6] rfl kr rfl (pr_ext (vs := [(.slice B16 ((32 * q) + 16) d17), (.int .i64 ((0 : Nat) : Int))]) rfl rfl rfl) (.inr rfl) rfl rfl ?_
 refine D_pure (i := 11) [2, 3, 4, 5, 6] rfl kr rfl (pr_ext (vs := [(.slice B16 ((32 * q) + 16) d17), (.int .i64 ((0 : Nat) : Int))]) rfl rfl rfl) (.inr rfl) rfl rfl ?_
 refine D_pure (i := 12) [2, 3, 4, 5, 6] rfl kr rfl (pr_assign rfl rfl) (.inr rfl) rfl rfl ?_
 refine D_pure (i := 13) [2, 3, 4, 5, 6] rfl kr rfl (pr_assign rfl rfl) (.inr rfl) rfl rfl ?_
 refine D_done kr ?_
 refine T_ret ?_
 refine T_slot 8 (.slice B16 ((32 * q) + 16) d17) (.slice B16 (32 * q + 16) d17) rfl (by rfl) ?_
 refine T_as 0 _ (.row (.slice B16 (32 * q + 16) d17) 5 1 (32 * q + 16) ((aseal (pkey job pp pr pa) (nonc pt pi) (paad pp pr pa pt pi q) (bpb xs ((q : Nat) : Int))).map b8)) rfl (by rfl) ?_
 exact T_fin (B16, d17) qN (res2 rfl rfl rfl) [0] ⟨by decide, rfl⟩ rfl
set_option maxRecDepth 100000 in
set_option maxHeartbeats 4000000 in
theorem bopen_ok_f (job : List (BitVec 8)) (pp : BitVec 64) (pr : BitVec 64) (pa : BitVec 64) (pt : BitVec 64) (pi : BitVec 64) (b : List (BitVec 8)) (A : Option Addr) (n : Nat) (c : Nat) (q : Nat) (w : World) (hO : HOK [.rd A 1 n c (b.map b8)] w) (hj : job.length = 32) (hb : b.length = n) (hq1 : 1 ≤ q) (hq8 : q ≤ 8) (h4 : 16 ≤ n) (h5 : n ≤ 65552) (hg : agood (pkey job pp pr pa) (nonc pt pi) (paad pp pr pa pt pi q) b) : Calls Tryz.prog 8 [(.agg (job.map b8).toArray), (.agg [(.int .i64 (i64 pp)), (.int .i64 (i64 pr)), (.int .i64 (i64 pa)), (b64 pt), (.int .i64 (i64 pi))].toArray), (.int .i64 ((q : Nat) : Int)), (.slice A n c)].toArray w (Ret (T := Option Addr × Nat) [] w (fun ⟨E, e⟩ => True) (fun ⟨E, e⟩ => (.tuple [(.slice E (btn (aplain (pkey job pp pr pa) (nonc pt pi) b) ((q : Nat) : Int)) e), (.int .i64 (((bte (aplain (pkey job pp pr pa) (nonc pt pi) b) ((q : Nat) : Int)) : Nat) : Int))].toArray)) (fun ⟨E, e⟩ => [.row (.slice E (btn (aplain (pkey job pp pr pa) (nonc pt pi) b) ((q : Nat) : Int)) e) 37 4 (btn (aplain (pkey job pp pr pa) (nonc pt pi) b) ((q : Nat) : Int)) (rcs (btk (aplain (pkey job pp pr pa) (nonc pt pi) b) ((q : Nat) : Int)))])) := by
 have hpk := pkey_len job pp pr pa
 have hnn := nonc_len pt pi
 have huu : ((pkey job pp pr pa) ++ (nonc pt pi)).length = 44 := by rw [List.length_append, hpk, hnn]
 have haa := paad_len pp pr pa pt pi q
 have hmq := mayb_q hq1 hq8
 have hal := aplain_len (pkey job pp pr pa) (nonc pt pi) b
 have hF : Wid Fence.wide := wid_wide
 refine enter (c := _) Tryz.func8 rfl [] _ [.rd A 1 n c (b.map b8)] (by rw [Tryz.ntmps8]; rfl) (own_rds hO rfl) ?_
 rw [Tryz.ntmps8]
 refine lE [(0, (.agg (job.map b8).toArray)), (1, (.agg [(.int .i64 (i64 pp)), (.int .i64 (i64 pr)), (.int .i64 (i64 pa)), (b64 pt), (.int .i64 (i64 pi))].toArray)), (2, (.int .i64 ((q : Nat) : Int))), (3, (.slice A n c))] ?_
 refine lH [0] [.rd A 1 n c (b.map b8)] ?_
 refine lT ?_
 refine L_op rfl (op_box (zs := (job.map b8)) rfl rfl rfl rfl rfl (fun g1 => ?_))
 refine L_op rfl (op_box (zs := [(.int .i64 (i64 pp)), (.int .i64 (i64 pr)), (.int .i64 (i64 pa)), (b64 pt), (.int .i64 (i64 pi))]) rfl rfl rfl rfl rfl (fun g2 => ?_))
 refine lS ?_
 refine lS ?_
 refine L_nil ?_
 refine T_seq ?_
 refine lT ?_
 refine lM ?_
 refine L_op rfl (op_cn (fun w hw => may_f ((q : Nat) : Int) w (hok_nil w) ) (enters_of Tryz.func22 kr rfl) rfl rfl rfl rfl rfl (fun t3 q4 => ?_))
 refine lO (pr_un rfl rfl rfl) ?_
 refine L_nil ?_
 refine T_cond_no (t := !(mayb ((q : Nat) : Int))) rfl (by rw [hmq]; rfl) ?_
 refine T_skip ?_
 refine lT ?_
 refine lQ (ld_agg (ds := (job.map b8)) 1 rfl agg_all Tryz.underlying22 rfl (fwz (n := 32) kr sd) rfl rfl) ?_
 refine lQ (ld_agg (ds := [(.int .i64 (i64 pp)), (.int .i64 (i64 pr)), (.int .i64 (i64 pa)), (b64 pt), (.int .i64 (i64 pi))]) 0 rfl agg_all Tryz.underlying25 rfl kr rfl rfl) ?_
 refine L_op rfl (op_cn (fun w hw => buse_f job pp pr pa pt pi w (hok_nil w) aS) (enters_of Tryz.func14 kr rfl) rfl rfl rfl rfl rfl (fun t5 q6 => ?_))
 refine L_op rfl (op_alloc (z := .agg [(b8 (0#8)), (b8 (0#8)), (b8 (0#8)), (b8 (0#8)), (b8 (0#8)), (b8 (0#8)), (b8 (0#8)), (b8 (0#8)), (b8 (0#8)), (b8 (0#8)), (b8 (0#8)), (b8 (0#8)), (b8 (0#8)), (b8 (0#8)), (b8 (0#8)), (b8 (0#8)), (b8 (0#8)), (b8 (0#8)), (b8 (0#8)), (b8 (0#8)), (b8 (0#8)), (b8 (0#8)), (b8 (0#8)), (b8 (0#8)), (b8 (0#8)), (b8 (0#8)), (b8 (0#8)), (b8 (0#8)), (b8 (0#8)), (b8 (0#8)), (b8 (0#8)), (b8 (0#8)), (b8 (0#8)), (b8 (0#8)), (b8 (0#8)), (b8 (0#8)), (b8 (0#8)), (b8 (0#8)), (b8 (0#8)), (b8 (0#8)), (b8 (0#8)), (b8 (0#8)), (b8 (0#8)), (b8 (0#8))].toArray) (zs := [(b8 (0#8)), (b8 (0#8)), (b8 (0#8)), (b8 (0#8)), (b8 (0#8)), (b8 (0#8)), (b8 (0#8)), (b8 (0#8)), (b8 (0#8)), (b8 (0#8)), (b8 (0#8)), (b8 (0#8)), (b8 (0#8)), (b8 (0#8)), (b8 (0#8)), (b8 (0#8)), (b8 (0#8)), (b8 (0#8)), (b8 (0#8)), (b8 (0#8)), (b8 (0#8)), (b8 (0#8)), (b8 (0#8)), (b8 (0#8)), (b8 (0#8)), (b8 (0#8)), (b8 (0#8)), (b8 (0#8)), (b8 (0#8)), (b8 (0#8)), (b8 (0#8)), (b8 (0#8)), (b8 (0#8)), (b8 (0#8)), (b8 (0#8)), (b8 (0#8)), (b8 (0#8)), (b8 (0#8)), (b8 (0#8)), (b8 (0#8)), (b8 (0#8)), (b8 (0#8)), (b8 (0#8)), (b8 (0#8))]) kr rfl rfl rfl rfl (fun g7 => ?_))
 refine L_op rfl (op_sto (n := 44) (vs := (((pkey job pp pr pa) ++ (nonc pt pi)).map b8)) 0 rfl rfl kr (all8_one _) kr sd rfl rfl rfl rfl ?_)
 refine L_nil ?_
 refine T_seq ?_
 refine T_regD [.blk g7 45 (((pkey job pp pr pa) ++ (nonc pt pi)).map b8), .blk g2 25 [(.int .i64 (i64 pp)), (.int .i64 (i64 pr)), (.int .i64 (i64 pa)), (b64 pt), (.int .i64 (i64 pi))], .blk g1 22 (job.map b8), .rd A 1 n c (b.map b8)] 15 15 #[false, false, false, false, false, false, false, false, false, false, false, false, false, false, false] hF kr kr ?_
 refine D_pure (i := 0) [0, 1, 2, 3] rfl kr rfl (pr_fa (m := 0) (m' := 0) (z := 31) (by rfl) Tryz.underlying45 rfl kr rfl rfl) (.inr rfl) rfl rfl ?_
 refine D_pure (i := 2) [0, 1, 2, 3] rfl kr rfl (pr_fa (m := 0) (m' := 32) (z := 11) (by rfl) Tryz.underlying45 rfl kr rfl rfl) (.inr rfl) rfl rfl ?_
 refine D_pure (i := 5) [0, 1, 2, 3] rfl kr rfl (pr_move rfl rfl) (.inr rfl) rfl rfl ?_
 refine D_pure (i := 6) [0, 1, 2, 3] rfl kr rfl (pr_mul (nm_i64 (a := q) (b := 32) sd) rfl rfl rfl) (.inr rfl) rfl rfl ?_
 refine T_slot 26 (.int .i64 ((q * 32 : Nat) : Int)) (.int .i64 ((32 * q : Nat) : Int)) rfl (by rw [Nat.mul_comm]) ?_
 refine D_pure (i := 8) [0, 1, 2, 3] rfl kr rfl (pr_move rfl rfl) (.inr rfl) rfl rfl ?_
 refine D_take (i := 1) [0, 1, 2, 3] rfl kr rfl (ld_agg (ds := ((List.take 32 ((pkey job pp pr pa) ++ (nonc pt pi))).map b8)) 0 rfl (by simp [List.map_take, List.map_drop]) Tryz.underlying22 rfl (fwz (n := 32) kr sd) rfl rfl) rfl rfl rfl ?_
 refine T_slot 21 _ (.agg ((pkey job pp pr pa).map b8).toArray) rfl (by rw [ptake hpk]) ?_
 refine D_take (i := 3) [0, 1, 2, 3] rfl kr rfl (ld_agg (ds := ((List.take 12 (List.drop 32 ((pkey job pp pr pa) ++ (nonc pt pi)))).map b8)) 0 rfl (by simp [List.map_take, List.map_drop]) Tryz.underlying43 rfl (fwz (n := 12) kr sd) rfl rfl) rfl rfl rfl ?_
 refine T_slot 23 _ (.agg ((nonc pt pi).map b8).toArray) rfl (by rw [pdrop hpk hnn]) ?_
 refine D_take (i := 4) [0, 1, 2, 3] rfl kr rfl (ld_agg (ds := [(.int .i64 (i64 pp)), (.int .i64 (i64 pr)), (.int .i64 (i64 pa)), (b64 pt), (.int .i64 (i64 pi))]) 1 rfl agg_all Tryz.underlying25 rfl kr rfl rfl) rfl rfl rfl ?_
 refine D_one 7 _ rfl kr rfl (op_cn (fun w hw => kaad_f pp pr pa pt pi (32 * q) w (hok_nil w) sd) (enters_of Tryz.func16 kr rfl) rfl rfl rfl rfl rfl (fun t8 q9 => ?_))
 obtain ⟨B10, d11⟩ := t8
 refine T_as 0 _ (.old B10 1 48 d11 ((paad pp pr pa pt pi q).map b8)) rfl (by rw [paad_def]) ?_
 refine D_on [1, 2, 3, 4] rfl ?_
 refine D_one 9 _ rfl kr rfl (op_cn (fun w hw => open_ok_f (pkey job pp pr pa) (nonc pt pi) (paad pp pr pa pt pi q) b B10 48 d11 A n c w (hok_cons ((src_old 0 rfl) w hw) (hok_cons ((src_rd 4 rfl) w hw) (hok_nil w))) aS aS aS aS sd sd sd hg) (enters_of Tryz.func23 kr rfl) rfl rfl rfl rfl rfl (fun t12 q13 => ?_))
 obtain ⟨B14, d15⟩ := t12
 refine D_on [2, 3, 4, 5] rfl ?_
 refine D_pure (i := 10) [2, 3, 4, 5] rfl kr rfl (pr_move rfl rfl) (.inr rfl) rfl rfl ?_
 refine D_pure (i := 11) [2, 3, 4, 5] rfl kr rfl (pr_ext (vs := [(.slice B14 (n - 16) d15), (.int .i64 ((0 : Nat) : Int))]) rfl rfl rfl) (.inr rfl) rfl rfl ?_
 refine D_pure (i := 12) [2, 3, 4, 5] rfl kr rfl (pr_ext (vs := [(.slice B14 (n - 16) d15), (.int .i64 ((0 : Nat) : Int))]) rfl rfl rfl) (.inr rfl) rfl rfl ?_
 refine D_pure (i := 13) [2, 3, 4, 5] rfl kr rfl (pr_assign rfl rfl) (.inr rfl) rfl rfl ?_
 refine D_pure (i := 14) [2, 3, 4, 5] rfl kr rfl (pr_assign rfl rfl) (.inr rfl) rfl rfl ?_
 refine D_done kr ?_
 refine T_seq ?_
 refine lT ?_
 refine lM ?_
 refine lO (pr_cmp (bo := .neq) (nc_ne (a := 0) (b := 0)) rfl rfl rfl rfl) ?_
 refine L_nil ?_
 refine T_cond_f rfl ?_
 refine T_skip ?_
 refine lT ?_
 refine lM ?_
 refine lM ?_
 refine L_op rfl (op_cn (fun w hw => btake_f (aplain (pkey job pp pr pa) (nonc pt pi) b) ((q : Nat) : Int) B14 (n - 16) d15 w (hok_cons ((src_row 0 rfl) w hw) (hok_nil w)) sd sd) (enters_of Tryz.func24 kr rfl) rfl rfl rfl rfl rfl (fun t16 q17 => ?_))
 obtain ⟨B18, e19⟩ := t16
 refine lO (pr_ext (vs := [(.slice B18 (btn (aplain (pkey job pp pr pa) (nonc pt pi) b) ((q : Nat) : Int)) e19), (.int .i64 (((bte (aplain (pkey job pp pr pa) (nonc pt pi) b) ((q : Nat) : Int)) : Nat) : Int))]) rfl rfl rfl) ?_
 refine lO (pr_ext (vs := [(.slice B18 (btn (aplain (pkey job pp pr pa) (nonc pt pi) b) ((q : Nat) : Int)) e19), (.int .i64 (((bte (aplain (pkey job pp pr pa) (nonc pt pi) b) ((q : Nat) : Int)) : Nat) : Int))]) rfl rfl rfl) ?_
 refine lS ?_
 refine lS ?_
 refine L_nil ?_
 refine T_ret ?_
 exact T_fin (B18, e19) qN (res2 rfl rfl rfl) [0] ⟨by decide, rfl⟩ rfl
end Go.Proofs.YtlplpmkdebemnaaGreat
namespace Go.Proofs.YtlplpmkdebemnaaGreat.Fw
open Go.RowKit Bv
section
variable {P : Program} {X : Cx} {s : List (Nat × Value)} {h : List HA} {o : Oper} {K K0 J : Jd}
theorem op_app_old {d : Nat} {t e : TypeId} {x y : Operand} {A A2 : Option Addr} {n m c c2 : Nat} {zs news : List (BitVec 8)} (hs1 : Src h A 1 n c (zs.map b8)) (hnz : 0 < n) (hfull : c < n + m) (ht : P.underlying t = some (.slice e)) (hin : (P.info? e).map (fun i => (i.zero, i.size, i.bytes)) = some (some (.int .u8 0), 1, 1))
    (hs : Src h A2 1 m c2 (news.map b8)) (hmz : 0 < m) (hb : n + m ≤ 100000000000000)
    (ho : o.op = .call { callee := .builtin .append, args := #[x, y], argTypes := #[t, t] }) (hx : ev s x = some (.slice A n c)) (hy : ev s y = some (.slice A2 m c2)) (hd : o.dst = some d) (hN : Nat.blt d X.N = true)
    (hh : ∀ A' c', Tr X ((d, .slice A' (n + m) c') :: s) (.row (.slice A' (n + m) c') e 1 (n + m) ((zs ++ news).map b8) :: h) K) : Tr X s h (Op P o K K0) := fun a w st => by
  have hr1 := (hs1 w st.ok).1
  have hrd := (hs w st.ok).1
  have hzl : zs.length = n := by have := hr1.len; simpa using this
  have hnl2 : news.length = m := by have := hrd.len; simpa using this
  obtain ⟨ti, hi1, hi2⟩ := Option.map_eq_some_iff.1 hin
  simp only [Prod.mk.injEq] at hi2
  obtain ⟨hz, hsize, hby⟩ := hi2
  cases A with
  | none => have h1 := hr1.isn rfl; have h2 := hr1.le; omega
  | some ad1 =>
  cases A2 with
  | none => have h1 := hrd.isn rfl; have h2 := hrd.le; omega
  | some ad =>
  have hgrow := grownCap_ge w (n + m) c e
  have hmost := grownCap_le_maxLen w (n + m) c e (by unfold maxLen; omega)
  have h9 := run_append_grow (P := P) w t o.type e ti _ ht hi1 hz ad1 n c (zs.map b8) (by rw [hsize, List.length_map, hzl, Nat.mul_one]) (fun j v hj => hr1.cells ad1 rfl j v hj) ad m c2 (news.map b8) (by rw [hsize, List.length_map, hnl2, Nat.mul_one]) (fun j u hu => hrd.cells ad rfl j u hu) oM oM (by rw [hby]; exact growslice_fits oM oM)
  have hr : (execOp a.eval o).run P w = .ok (.value (.slice (some ⟨w.heap.size, 0, none⟩) (n + m) (grownCap w (n + m) c e))) (w.drew.alloc (.cells ((zs.map b8).toArray ++ (news.map b8).toArray ++ Builtin.zeroCells (Value.int .u8 0).cells (grownCap w (n + m) c e - (n + m))) e)) := by
    unfold execOp
    rw [ho]
    simp [resolve, invoke, builtin, st.ag _ _ hx, st.ag _ _ hy, h9]
  have hzc : (Builtin.zeroCells (Value.int .u8 0).cells (grownCap w (n + m) c e - (n + m))).size = grownCap w (n + m) c e - (n + m) := by
    simp [Builtin.zeroCells, Value.cells]
  generalize hcs : ((zs.map b8).toArray ++ (news.map b8).toArray ++ Builtin.zeroCells (Value.int .u8 0).cells (grownCap w (n + m) c e - (n + m))) = cs at hr
  have hsz : cs.size = grownCap w (n + m) c e := by
    rw [← hcs, Array.size_append, hzc]; simp [hzl, hnl2]; omega
  have htk : cs.toList.take (n + m) = (zs ++ news).map b8 := by
    rw [← hcs, Array.toList_append, List.take_append_of_le_length (by simp [hzl, hnl2]), List.take_of_length_le (by simp [hzl, hnl2])]; simp
  refine op_val hr ?_
  rw [hd]
  have hnew : (w.drew.alloc (.cells cs e)).heap[w.heap.size]? = some (.cells cs e (0, 0)) := heap_alloc_new w.drew (.cells cs e)
  refine hh _ _ _ _ (st.swapv [] h [.row (.slice (some ⟨w.heap.size, 0, none⟩) (n + m) (grownCap w (n + m) c e)) e 1 (n + m) ((zs ++ news).map b8)] (List.Perm.refl _) hN _ ⟨⟨rfl, rfl, rfl, by rw [World.size_alloc]; exact Nat.le_succ _⟩, fun k hk _ => Below.heap_alloc w.drew _ _ hk⟩ ?_ ?_ ?_ ?_)
  · intro x hx; rw [List.mem_singleton] at hx; subst hx
    exact ⟨by simp [hzl, hnl2], .inr ⟨w.heap.size, grownCap w (n + m) c e, cs, rfl, Nat.zero_le _, hnew, hgrow, hmost, by rw [hsz, Nat.mul_one], by rw [Nat.mul_one]; exact htk⟩⟩
  · intro x hx k hk; rw [List.mem_singleton] at hx; subst hx; simp [HA.frs, Value.ownBlock] at hk; subst hk; exact .inr (Nat.le_refl _)
  · simp [HA.ids, Value.ownBlock]
  · intro x hx r hr; rw [List.mem_singleton] at hx; subst hx; cases hr
theorem pr_fap {x : Operand} {t : TypeId} {fs : Array Field} {f : Field} {i z : Nat} {ad : Addr} (h0 : f.offset = 0) (ht : P.underlying t = some (.struct fs)) (hf : fs[i]? = some f) (hz : (P.info? f.type).map (·.size) = some (z + 1)) (ho : o.op = .fieldAddr t x i) (hx : ev s x = some (.pointer (some ad))) :
    Pr P s h o (.pointer (some ad)) := fun e he w hw w' => by
  have ha : ad.add 0 = ad := by unfold Addr.add; simp
  unfold execOp; rw [ho]
  simp [he _ _ hx, Instr.fieldAt, Instr.sureAddr, run_underlying ht, hf, fieldPlace, run_sizeOf hz, h0, ha]
theorem rcs_dead {xs : List Rc} {j : Nat} (h : j < xs.length) : (rcs xs)[j * 4]? = some (.bool (rat xs j).d) := by
  have h1 := rcs_at xs j h
  have h2 : (((rcs xs).drop (j * 4)).take 4)[0]? = some (.bool (rat xs j).d) := by rw [h1]; rfl
  rw [List.getElem?_take, if_pos oM, List.getElem?_drop] at h2
  simpa using h2
end
end Go.Proofs.YtlplpmkdebemnaaGreat.Fw
