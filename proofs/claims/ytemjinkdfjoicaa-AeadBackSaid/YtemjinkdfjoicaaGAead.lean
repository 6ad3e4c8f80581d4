/- What package aead and its reference answer, by facts. Conditions: texts up to 65536 bytes (and beyond: the error). -/
import Derived.Test.YtemjinkdfjoicaaGPoly3
import Derived.Test.YtemjinkdfjoicaaGPoly4
import Derived.Test.YtemjinkdfjoicaaGCha2
import Derived.Test.YtemjinkdfjoicaaGHlp
import Derived.Test.YtemjinkdfjoicaaAeadP
import Derived.Test.YtemjinkdfjoicaaFwY
import Derived.Test.YtemjinkdfjoicaaProg
import Derived.Test.YtemjinkdfjoicaaFwU
namespace Go.Proofs.Ytemjinkdfjoicaa
set_option linter.unusedVariables false
set_option linter.unusedSimpArgs false
set_option linter.unnecessarySimpa false
open Go.RowKit Bv Fw

set_option maxHeartbeats 4000000 in
theorem ctsame_f (x : BitVec 64) (y : BitVec 64) (w : World) (hO : HOK [] w)  : Calls Try.prog 61 [(b64 x), (b64 y)].toArray w (Ret (T := Unit) [] w (fun _ => True) (fun _ => (b64 (CtPure.same x y))) (fun _ => [])) := by
 have hF : Wid Fence.wide := wid_wide
 refine enter (c := _) Try.func61 rfl [] [(b64 x), (b64 y)] [] (by rw [Try.ntmps61]; rfl) (own_rds hO rfl) ?_
 rw [Try.ntmps61]
 refine T_re [(0, (b64 x)), (1, (b64 y))] (sc rfl (sc rfl sn)) ?_
 refine T_he [] [] ⟨by decide, rfl⟩ ?_
 refine Tsr hF rfl ?_
 refine la rfl rfl rfl rfl rfl ?_
 refine L_nil ?_
 refine Tsr hF rfl ?_
 refine lm rfl rfl rfl rfl rfl ?_
 refine lm rfl rfl rfl rfl rfl ?_
 refine lo rfl (pr_xor (ib_xor64 _ _) rfl rfl rfl) rfl rfl ?_
 refine la rfl rfl rfl rfl rfl ?_
 refine L_nil ?_
 refine Tsr hF rfl ?_
 refine lm rfl rfl rfl rfl rfl ?_
 refine lm rfl rfl rfl rfl rfl ?_
 refine lo rfl (pr_un (un_neg64 _) rfl rfl) rfl rfl ?_
 refine lo rfl (pr_or (ib_or64 _ _) rfl rfl rfl) rfl rfl ?_
 refine lo rfl (pr_shift (sh_shr64 ((x ^^^ y) ||| (-(x ^^^ y))) _ 63) rfl rfl rfl rfl) rfl rfl ?_
 refine lo rfl (pr_xor (ib_xor64 _ (1#64)) rfl rfl rfl) rfl rfl ?_
 refine la rfl rfl rfl rfl rfl ?_
 refine L_nil ?_
 refine T_ret ?_
 refine T_slot 4 (b64 ((((x ^^^ y) ||| (-(x ^^^ y))) >>> 63) ^^^ 1#64)) (b64 (CtPure.same x y)) rfl (by rfl) ?_
 exact T_fin () (by first | trivial | omega | (simp; done)) (res1 rfl rfl) [] ⟨by decide, rfl⟩ rfl
set_option maxHeartbeats 4000000 in
theorem ctequal_f (xs : List (BitVec 8)) (A : Option Addr) (n : Nat) (c : Nat) (ys : List (BitVec 8)) (B : Option Addr) (d : Nat) (w : World) (hO : HOK [.rd A 1 n c (xs.map b8), .rd B 1 n d (ys.map b8)] w) (hx : xs.length = n) (hy : ys.length = n) (hn : n ≤ 100000000) : Calls Try.prog 47 [(.slice A n c), (.slice B n d)].toArray w (Ret (T := Unit) [] w (fun _ => True) (fun _ => (b64 (eqw xs ys))) (fun _ => [])) := by
 have hF : Wid Fence.wide := wid_wide
 refine enter (c := _) Try.func47 rfl [] [(.slice A n c), (.slice B n d)] [.rd A 1 n c (xs.map b8), .rd B 1 n d (ys.map b8)] (by rw [Try.ntmps47]; rfl) (own_rds hO rfl) ?_
 rw [Try.ntmps47]
 refine T_re [(0, (.slice A n c)), (1, (.slice B n d))] (sc rfl (sc rfl sn)) ?_
 refine T_he [0, 1] [.rd A 1 n c (xs.map b8), .rd B 1 n d (ys.map b8)] ⟨by decide, rfl⟩ ?_
 refine Tsr hF rfl ?_
 refine la rfl rfl rfl rfl rfl ?_
 refine L_nil ?_
 refine T_seq ?_
 refine Tsr hF rfl ?_
 refine lm rfl rfl rfl rfl rfl ?_
 refine lo rfl (pr_len_sl Try.underlying25 rfl rfl) rfl rfl ?_
 refine lm rfl rfl rfl rfl rfl ?_
 refine lo rfl (pr_len_sl Try.underlying25 rfl rfl) rfl rfl ?_
 refine lo rfl (pr_cmp (bo := .neq) (nc_ne (a := n) (b := n)) rfl rfl rfl rfl) rfl rfl ?_
 refine L_nil ?_
 refine T_cond_no (t := (n != n)) rfl (by simp) ?_
 refine T_skip ?_
 refine Tsr hF rfl ?_
 refine la rfl rfl rfl rfl rfl ?_
 refine L_nil ?_
 refine T_seq ?_
 refine Tsr hF rfl ?_
 refine lm rfl rfl rfl rfl rfl ?_
 refine lo rfl (pr_len_sl Try.underlying25 rfl rfl) rfl rfl ?_
 refine lm rfl rfl rfl rfl rfl ?_
 refine L_nil ?_
 refine T_block ?_
 refine T_slot 5 (b8 (0#8)) (b8 (orx xs ys 0)) rfl (by rw [orx_zero]) ?_
 refine T_loop (T := Nat) (fun i => i ≤ n) (fun i => [(0, (.slice A n c)), (1, (.slice B n d)), (5, (b8 (orx xs ys i))), (13, (.int .i64 ((n : Nat) : Int))), (14, (.int .i64 ((i : Nat) : Int)))]) (fun i => [.rd A 1 n c (xs.map b8), .rd B 1 n d (ys.map b8)]) (fun i => n - i) 0 (by first | trivial | ((try dsimp only); first | omega | (refine ⟨?_, ?_⟩ <;> omega) | (refine ⟨?_, ?_, ?_⟩ <;> omega) | (simp; done) | (simp; omega))) (sc rfl (sc rfl (sc rfl (sc rfl (sc rfl sn))))) [0, 1] ⟨by decide, rfl⟩ ?_
 rintro i hp
 have hp : i ≤ n := hp
 refine T_re [(0, (.slice A n c)), (1, (.slice B n d)), (5, (b8 (orx xs ys i))), (13, (.int .i64 ((n : Nat) : Int))), (14, (.int .i64 ((i : Nat) : Int)))] (sc rfl (sc rfl (sc rfl (sc rfl (sc rfl sn))))) ?_
 refine T_he [0, 1] [.rd A 1 n c (xs.map b8), .rd B 1 n d (ys.map b8)] ⟨by decide, rfl⟩ ?_
 refine Tsr hF rfl ?_
 refine lo rfl (pr_cmp (bo := .lss) (nc_lt (a := i) (b := n)) rfl rfl rfl rfl) rfl rfl ?_
 refine L_nil ?_
 refine T_seq ?_
 refine T_cond (decide (i < n)) rfl (fun hc_1 => ?_) (fun hc_1 => ?_)
 ·
  have hc_1 := of_decide_eq_true hc_1
  refine T_skip ?_
  refine T_seq ?_
  refine T_block ?_
  refine Tsr hF rfl ?_
  refine lm rfl rfl rfl rfl rfl ?_
  refine la rfl rfl rfl rfl rfl ?_
  refine L_nil ?_
  refine T_regD [.rd A 1 n c (xs.map b8), .rd B 1 n d (ys.map b8)] 12 12 #[false, false, false, false, false, false, false, false, false, false, false, false] hF kr kr ?_
  refine D_pure (i := 0) [0, 1] rfl kr rfl (pr_move rfl rfl) (.inr rfl) rfl rfl ?_
  refine D_pure (i := 1) [0, 1] rfl kr rfl (pr_move rfl rfl) (.inr rfl) rfl rfl ?_
  refine D_pure (i := 2) [0, 1] rfl kr rfl (pr_move rfl rfl) (.inr rfl) rfl rfl ?_
  refine D_pure (i := 3) [0, 1] rfl kr rfl (pr_ixs1 (j := i) (src_none (src_rd 0 rfl)) sd Try.underlying25 kr rfl rfl rfl) (.inr rfl) rfl rfl ?_
  refine D_pure (i := 5) [0, 1] rfl kr rfl (pr_move rfl rfl) (.inr rfl) rfl rfl ?_
  refine D_pure (i := 6) [0, 1] rfl kr rfl (pr_move rfl rfl) (.inr rfl) rfl rfl ?_
  refine D_pure (i := 7) [0, 1] rfl kr rfl (pr_ixs1 (j := i) (src_none (src_rd 1 rfl)) sd Try.underlying25 kr rfl rfl rfl) (.inr rfl) rfl rfl ?_
  refine D_take (i := 4) [0, 1] rfl kr rfl (ld_src (m := i) (src_rd 0 rfl) (get8 sd) Try.underlying5 rfl rfl rfl) rfl rfl rfl ?_
  refine D_take (i := 8) [0, 1] rfl kr rfl (ld_src (m := i) (src_rd 1 rfl) (get8 sd) Try.underlying5 rfl rfl rfl) rfl rfl rfl ?_
  refine D_pure (i := 9) [0, 1] rfl kr rfl (pr_xor (ib_xor8 _ _) rfl rfl rfl) (.inr rfl) rfl rfl ?_
  refine D_pure (i := 10) [0, 1] rfl kr rfl (pr_or (ib_or8 _ _) rfl rfl rfl) (.inr rfl) rfl rfl ?_
  refine D_pure (i := 11) [0, 1] rfl kr rfl (pr_assign rfl rfl) (.inr rfl) rfl rfl ?_
  refine D_done kr ?_
  refine T_reg hF rfl ?_
  refine lo rfl (pr_add (na_i64 (a := i) (b := 1) sd) rfl rfl rfl) rfl rfl ?_
  refine lm rfl rfl rfl rfl rfl ?_
  refine L_nil ?_
  refine T_slot 5 (b8 ((orx xs ys i) ||| ((ath xs i) ^^^ (ath ys i)))) (b8 (orx xs ys (i + 1))) rfl (by rw [orx_succ]) ?_
  exact T_again (i + 1) (by first | trivial | ((try dsimp only); first | omega | (refine ⟨?_, ?_⟩ <;> omega) | (refine ⟨?_, ?_, ?_⟩ <;> omega) | (simp; done) | (simp; omega))) (by first | trivial | ((try dsimp only); first | omega | (refine ⟨?_, ?_⟩ <;> omega) | (refine ⟨?_, ?_, ?_⟩ <;> omega) | (simp; done) | (simp; omega))) (sc rfl (sc rfl (sc rfl (sc rfl (sc rfl sn))))) [0, 1] ⟨by decide, rfl⟩
 ·
  have hc_1 := of_decide_eq_false hc_1
  refine T_exit rfl ?_
  obtain rfl : n = i := by omega
  refine Tsr hF rfl ?_
  refine lm rfl rfl rfl rfl rfl ?_
  refine lo rfl (pr_cv (cv8_64 _) Try.underlying5 Try.underlying49 rfl rfl) rfl rfl ?_
  refine L_op rfl (op_cn (fun w hw => ctsame_f ((orx xs ys n).setWidth 64) (0#64) w (hok_nil w) ) (enters_of Try.func61 kr rfl) rfl rfl rfl rfl rfl (fun t2 q3 => ?_))
  refine la rfl rfl rfl rfl rfl ?_
  refine L_nil ?_
  refine T_ret ?_
  refine T_slot 4 (b64 (CtPure.same ((orx xs ys n).setWidth 64) (0#64))) (b64 (eqw xs ys)) rfl (by rw [eqw_of xs ys n hx hy]) ?_
  exact T_fin () (by first | trivial | omega | (simp; done)) (res1 rfl rfl) [] ⟨by decide, rfl⟩ rfl
set_option maxRecDepth 100000 in
set_option maxHeartbeats 4000000 in
theorem padded_seq (aad : List (BitVec 8)) (cs : List (BitVec 8)) (A1 : Option Addr) (n1 : Nat) (c1 : Nat) (A2 : Option Addr) (n2 : Nat) (c2 : Nat) (A : Option Addr) (g1 : Nat) (h1 : aad.length = n1) (h2 : cs.length = n2) (h3 : n1 ≤ 100000000) (h4 : n2 ≤ 100000000) : SeqC (Θ := Option Addr × Nat × Nat) Try.prog 65 [(.pointer (some ⟨g1, 0, none⟩))] [.rd (some ⟨g1, 0, none⟩) 1 1 1 [(.slice A 2 2)], .rd A 1 2 2 [(.slice A1 n1 c1), (.slice A2 n2 c2)], .rd A1 1 n1 c1 (aad.map b8), .rd A2 1 n2 c2 (cs.map b8)] 5 (fun k ⟨B, m, c⟩ => [(.slice B m c)]) (fun k ⟨B, m, c⟩ => [.rd B 1 m c ((pdc aad cs k).map b8)]) := by
 have hF : Wid Fence.wide := wid_wide
 refine enter_seq (c := _) Try.func65 rfl (by rw [Try.ntmps65]; rfl) rfl ?_
 intro l J Jx W O R hsJ hsX hy hend
 rw [Try.ntmps65]
 refine T_re [(0, (.func (.yield l) #[] #[])), (1, (.pointer (some ⟨g1, 0, none⟩)))] (sc rfl (sc rfl sn)) ?_
 refine T_he [0, 1, 2, 3, 4] [.inv W.heap.size O R (J 0 O R), .rd (some ⟨g1, 0, none⟩) 1 1 1 [(.slice A 2 2)], .rd A 1 2 2 [(.slice A1 n1 c1), (.slice A2 n2 c2)], .rd A1 1 n1 c1 (aad.map b8), .rd A2 1 n2 c2 (cs.map b8)] ⟨by decide, rfl⟩ ?_
 refine Tsr hF rfl ?_
 refine la rfl rfl rfl rfl rfl ?_
 refine L_nil ?_
 refine T_seq ?_
 refine Tsr hF rfl ?_
 refine lq rfl (ld_rdb (src_rd 1 rfl) rfl Try.underlying23 rfl rfl rfl) rfl rfl ?_
 refine lo rfl (pr_len_sl Try.underlying23 rfl rfl) rfl rfl ?_
 refine lm rfl rfl rfl rfl rfl ?_
 refine L_nil ?_
 refine T_block ?_
 refine T_rounds 3 ?_
 refine T_round ?_
 refine Tsr hF rfl ?_
 refine lo rfl (pr_cmp (bo := .lss) (nc_lt (a := 0) (b := 2)) rfl rfl rfl rfl) rfl rfl ?_
 refine L_nil ?_
 refine T_seq ?_
 refine T_cond_t rfl ?_
 refine T_skip ?_
 refine T_seq ?_
 refine T_block ?_
 refine Tsr hF rfl ?_
 refine lo rfl (pr_ixs1 (j := 0) (src_none (src_rd 2 rfl)) sd Try.underlying23 kr rfl rfl rfl) rfl rfl ?_
 refine lq rfl (ld_src (m := 0) (src_rd 2 rfl) rfl Try.underlying25 rfl rfl rfl) rfl rfl ?_
 refine la rfl rfl rfl rfl rfl ?_
 refine L_nil ?_
 refine Tsr hF rfl ?_
 refine lm rfl rfl rfl rfl rfl ?_
 refine lm rfl rfl rfl rfl rfl ?_
 refine lo rfl (pr_len_sl Try.underlying25 rfl rfl) rfl rfl ?_
 refine lo rfl (pr_cv (ni_u64 (a := n1) sd) Try.underlying3 Try.underlying49 rfl rfl) rfl rfl ?_
 refine T_slot 15 _ (b64 (BitVec.ofNat 64 n1)) rfl (nat64 sd) ?_
 refine T_nilrow 5 1 ?_
 refine L_op rfl (op_c1 0 rfl (fun w hw => putLow_f [] (BitVec.ofNat 64 n1) 8 none 0 0 w (hw _ (List.mem_of_getElem? (i := 0) rfl)) sd sd) (enters_of Try.func52 kr rfl) rfl rfl rfl rfl rfl (fun t1 q2 => ?_))
 obtain ⟨B3, d4⟩ := t1
 refine la rfl rfl rfl rfl rfl ?_
 refine L_nil ?_
 refine T_seq ?_
 refine T_regI ?_
 refine LI_opP hF rfl rfl (op_pr (pr_move rfl rfl) rfl rfl ?_)
 refine LI_opP hF rfl rfl (op_pr (pr_move rfl rfl) rfl rfl ?_)
 refine T_as 4 _ (.rd A1 1 n1 c1 ((pdc aad cs 0).map b8)) rfl (by first | rw [pdc0] | rw [pdc1 aad cs n1 h1] | rw [pdc2] | rw [pdc3 aad cs n2 h2] | rw [pdc4 aad cs n1 n2 h1 h2]) ?_
 refine LI_op rfl (op_yield (k := 0) ((A1 : Option Addr), (n1 : Nat), (c1 : Nat)) hy sd hsJ hsX 2 rfl [0] rfl rfl rfl rfl rfl rfl rfl rfl rfl (fun _ => trivial) (fun O5 R6 => ?_) (fun O7 R8 => ?_))
 ·
  refine LI_opP hF rfl rfl (op_pr (pr_un (v := .bool false) rfl rfl rfl) rfl rfl ?_)
  refine LI_opP hF rfl rfl (op_pr (pr_move rfl rfl) rfl rfl ?_)
  refine LI_opP hF rfl rfl (op_pr (pr_move rfl rfl) rfl rfl ?_)
  refine LI_opP hF rfl rfl (op_pr (pr_move rfl rfl) rfl rfl ?_)
  refine LI_opP hF rfl rfl (op_pr (pr_len_sl Try.underlying25 rfl rfl) rfl rfl ?_)
  refine LI_opP hF rfl rfl (op_pr (pr_rem (a := n1) (b := 16) sd rfl rfl rfl) rfl rfl ?_)
  refine LI_opP hF rfl rfl (op_pr (pr_sub (ns_i64 (a := 16) (b := n1 % 16) sd sd) rfl rfl rfl) rfl rfl ?_)
  refine LI_opP hF rfl rfl (op_pr (pr_rem (a := 16 - (n1 % 16)) (b := 16) sd rfl rfl rfl) rfl rfl ?_)
  refine LI_opP hF rfl rfl (op_make (z := (b8 (0#8))) (n := (16 - (n1 % 16)) % 16) (c := (16 - (n1 % 16)) % 16) Try.underlying25 (bytes := 1) kr rfl sd sd sd rfl rfl rfl rfl rfl (fun g9 => ?_))
  refine T_as 0 _ (.blk g9 5 ((List.replicate ((16 - (n1 % 16)) % 16) 0#8).map b8)) rfl (by rw [List.map_replicate]) ?_
  refine T_oldb 0 (zs := ((List.replicate ((16 - (n1 % 16)) % 16) 0#8).map b8)) 0 1 ((16 - (n1 % 16)) % 16) ((16 - (n1 % 16)) % 16) rfl (by simp) (by rw [List.drop_zero, List.take_of_length_le (by simp)]) (Nat.le_refl _) (by omega) ?_
  refine T_tord 0 rfl ?_
  refine T_as 0 _ (.rd (some ⟨g9, 0, none⟩) 1 ((16 - (n1 % 16)) % 16) ((16 - (n1 % 16)) % 16) ((pdc aad cs 1).map b8)) rfl (by first | rw [pdc0] | rw [pdc1 aad cs n1 h1] | rw [pdc2] | rw [pdc3 aad cs n2 h2] | rw [pdc4 aad cs n1 n2 h1 h2]) ?_
  refine LI_op rfl (op_yield (k := 1) ((some ⟨g9, 0, none⟩ : Option Addr), ((16 - (n1 % 16)) % 16 : Nat), ((16 - (n1 % 16)) % 16 : Nat)) hy sd hsJ hsX 1 rfl [0] rfl rfl rfl rfl rfl rfl rfl rfl rfl (fun _ => trivial) (fun O10 R11 => ?_) (fun O12 R13 => ?_))
  ·
   refine LI_opP hF rfl rfl (op_pr (pr_un (v := .bool false) rfl rfl rfl) rfl rfl ?_)
   refine LI_opP hF rfl rfl (op_pr (pr_pick_f rfl rfl rfl) rfl rfl ?_)
   refine LI_nil ?_
   refine T_cond_f rfl ?_
   refine T_skip ?_
   refine T_reg hF rfl ?_
   refine lo rfl (pr_add (na_i64 (a := 0) (b := 1) sd) rfl rfl rfl) rfl rfl ?_
   refine lm rfl rfl rfl rfl rfl ?_
   refine L_nil ?_
   refine T_round ?_
   refine Tsr hF rfl ?_
   refine lo rfl (pr_cmp (bo := .lss) (nc_lt (a := 1) (b := 2)) rfl rfl rfl rfl) rfl rfl ?_
   refine L_nil ?_
   refine T_seq ?_
   refine T_cond_t rfl ?_
   refine T_skip ?_
   refine T_seq ?_
   refine T_block ?_
   refine Tsr hF rfl ?_
   refine lo rfl (pr_ixs1 (j := 1) (src_none (src_rd 5 rfl)) sd Try.underlying23 kr rfl rfl rfl) rfl rfl ?_
   refine lq rfl (ld_src (m := 1) (src_rd 5 rfl) rfl Try.underlying25 rfl rfl rfl) rfl rfl ?_
   refine la rfl rfl rfl rfl rfl ?_
   refine L_nil ?_
   refine Tsr hF rfl ?_
   refine lm rfl rfl rfl rfl rfl ?_
   refine lm rfl rfl rfl rfl rfl ?_
   refine lo rfl (pr_len_sl Try.underlying25 rfl rfl) rfl rfl ?_
   refine lo rfl (pr_cv (ni_u64 (a := n2) sd) Try.underlying3 Try.underlying49 rfl rfl) rfl rfl ?_
   refine T_slot 15 _ (b64 (BitVec.ofNat 64 n2)) rfl (nat64 sd) ?_
   refine L_op rfl (op_c1 3 rfl (fun w hw => putLow_f ([] ++ lowb (BitVec.ofNat 64 n1) 8) (BitVec.ofNat 64 n2) 8 B3 (0 + 8) d4 w (hw _ (List.mem_of_getElem? (i := 3) rfl)) sd sd) (enters_of Try.func52 kr rfl) rfl rfl rfl rfl rfl (fun t14 q15 => ?_))
   obtain ⟨B16, d17⟩ := t14
   refine la rfl rfl rfl rfl rfl ?_
   refine L_nil ?_
   refine T_seq ?_
   refine T_regI ?_
   refine LI_opP hF rfl rfl (op_pr (pr_move rfl rfl) rfl rfl ?_)
   refine LI_opP hF rfl rfl (op_pr (pr_move rfl rfl) rfl rfl ?_)
   refine T_as 6 _ (.rd A2 1 n2 c2 ((pdc aad cs 2).map b8)) rfl (by first | rw [pdc0] | rw [pdc1 aad cs n1 h1] | rw [pdc2] | rw [pdc3 aad cs n2 h2] | rw [pdc4 aad cs n1 n2 h1 h2]) ?_
   refine LI_op rfl (op_yield (k := 2) ((A2 : Option Addr), (n2 : Nat), (c2 : Nat)) hy sd hsJ hsX 2 rfl [0] rfl rfl rfl rfl rfl rfl rfl rfl rfl (fun _ => trivial) (fun O18 R19 => ?_) (fun O20 R21 => ?_))
   ·
    refine LI_opP hF rfl rfl (op_pr (pr_un (v := .bool false) rfl rfl rfl) rfl rfl ?_)
    refine LI_opP hF rfl rfl (op_pr (pr_move rfl rfl) rfl rfl ?_)
    refine LI_opP hF rfl rfl (op_pr (pr_move rfl rfl) rfl rfl ?_)
    refine LI_opP hF rfl rfl (op_pr (pr_move rfl rfl) rfl rfl ?_)
    refine LI_opP hF rfl rfl (op_pr (pr_len_sl Try.underlying25 rfl rfl) rfl rfl ?_)
    refine LI_opP hF rfl rfl (op_pr (pr_rem (a := n2) (b := 16) sd rfl rfl rfl) rfl rfl ?_)
    refine LI_opP hF rfl rfl (op_pr (pr_sub (ns_i64 (a := 16) (b := n2 % 16) sd sd) rfl rfl rfl) rfl rfl ?_)
    refine LI_opP hF rfl rfl (op_pr (pr_rem (a := 16 - (n2 % 16)) (b := 16) sd rfl rfl rfl) rfl rfl ?_)
    refine LI_opP hF rfl rfl (op_make (z := (b8 (0#8))) (n := (16 - (n2 % 16)) % 16) (c := (16 - (n2 % 16)) % 16) Try.underlying25 (bytes := 1) kr rfl sd sd sd rfl rfl rfl rfl rfl (fun g22 => ?_))
    refine T_as 0 _ (.blk g22 5 ((List.replicate ((16 - (n2 % 16)) % 16) 0#8).map b8)) rfl (by rw [List.map_replicate]) ?_
    refine T_oldb 0 (zs := ((List.replicate ((16 - (n2 % 16)) % 16) 0#8).map b8)) 0 1 ((16 - (n2 % 16)) % 16) ((16 - (n2 % 16)) % 16) rfl (by simp) (by rw [List.drop_zero, List.take_of_length_le (by simp)]) (Nat.le_refl _) (by omega) ?_
    refine T_tord 0 rfl ?_
    refine T_as 0 _ (.rd (some ⟨g22, 0, none⟩) 1 ((16 - (n2 % 16)) % 16) ((16 - (n2 % 16)) % 16) ((pdc aad cs 3).map b8)) rfl (by first | rw [pdc0] | rw [pdc1 aad cs n1 h1] | rw [pdc2] | rw [pdc3 aad cs n2 h2] | rw [pdc4 aad cs n1 n2 h1 h2]) ?_
    refine LI_op rfl (op_yield (k := 3) ((some ⟨g22, 0, none⟩ : Option Addr), ((16 - (n2 % 16)) % 16 : Nat), ((16 - (n2 % 16)) % 16 : Nat)) hy sd hsJ hsX 1 rfl [0] rfl rfl rfl rfl rfl rfl rfl rfl rfl (fun _ => trivial) (fun O23 R24 => ?_) (fun O25 R26 => ?_))
    ·
     refine LI_opP hF rfl rfl (op_pr (pr_un (v := .bool false) rfl rfl rfl) rfl rfl ?_)
     refine LI_opP hF rfl rfl (op_pr (pr_pick_f rfl rfl rfl) rfl rfl ?_)
     refine LI_nil ?_
     refine T_cond_f rfl ?_
     refine T_skip ?_
     refine T_reg hF rfl ?_
     refine lo rfl (pr_add (na_i64 (a := 1) (b := 1) sd) rfl rfl rfl) rfl rfl ?_
     refine lm rfl rfl rfl rfl rfl ?_
     refine L_nil ?_
     refine T_round ?_
     refine Tsr hF rfl ?_
     refine lo rfl (pr_cmp (bo := .lss) (nc_lt (a := 2) (b := 2)) rfl rfl rfl rfl) rfl rfl ?_
     refine L_nil ?_
     refine T_seq ?_
     refine T_cond_f rfl ?_
     refine T_exit rfl ?_
     refine T_regI ?_
     refine LI_opP hF rfl rfl (op_pr (pr_move rfl rfl) rfl rfl ?_)
     refine LI_opP hF rfl rfl (op_pr (pr_move rfl rfl) rfl rfl ?_)
     refine T_old 3 rfl ?_
     refine T_tord 0 rfl ?_
     refine T_as 0 _ (.rd B16 1 ((0 + 8) + 8) d17 ((pdc aad cs 4).map b8)) rfl (by first | rw [pdc0] | rw [pdc1 aad cs n1 h1] | rw [pdc2] | rw [pdc3 aad cs n2 h2] | rw [pdc4 aad cs n1 n2 h1 h2]) ?_
     refine LI_op rfl (op_yield (k := 4) ((B16 : Option Addr), ((0 + 8) + 8 : Nat), (d17 : Nat)) hy sd hsJ hsX 1 rfl [0] rfl rfl rfl rfl rfl rfl rfl rfl rfl (fun _ => trivial) (fun O27 R28 => ?_) (fun O29 R30 => ?_))
     ·
      refine LI_nil ?_
      exact T_finJ rfl rfl 0 rfl
     ·
      refine LI_nil ?_
      exact T_finX rfl rfl 0 rfl
    ·
     refine LI_opP hF rfl rfl (op_pr (pr_un (v := .bool true) rfl rfl rfl) rfl rfl ?_)
     refine LI_opP hF rfl rfl (op_pr (pr_pick_f rfl rfl rfl) rfl rfl ?_)
     refine LI_nil ?_
     refine T_cond_t rfl ?_
     refine T_ret ?_
     exact T_finX rfl rfl 0 rfl
   ·
    refine LI_opP hF rfl rfl (op_pr (pr_un (v := .bool true) rfl rfl rfl) rfl rfl ?_)
    refine LI_opP hF rfl rfl (op_pr (pr_move rfl rfl) rfl rfl ?_)
    refine LI_skip hF rfl rfl rfl ?_
    refine LI_skip hF rfl rfl rfl ?_
    refine LI_skip hF rfl rfl rfl ?_
    refine LI_skip hF rfl rfl rfl ?_
    refine LI_skip hF rfl rfl rfl ?_
    refine LI_skip hF rfl rfl rfl ?_
    refine LI_skip hF rfl rfl rfl ?_
    refine LI_skip hF rfl rfl rfl ?_
    refine LI_skip hF rfl rfl rfl ?_
    refine LI_opP hF rfl rfl (op_pr (pr_pick_t rfl rfl rfl) rfl rfl ?_)
    refine LI_nil ?_
    refine T_cond_t rfl ?_
    refine T_ret ?_
    exact T_finX rfl rfl 0 rfl
  ·
   refine LI_opP hF rfl rfl (op_pr (pr_un (v := .bool true) rfl rfl rfl) rfl rfl ?_)
   refine LI_opP hF rfl rfl (op_pr (pr_pick_f rfl rfl rfl) rfl rfl ?_)
   refine LI_nil ?_
   refine T_cond_t rfl ?_
   refine T_ret ?_
   exact T_finX rfl rfl 0 rfl
 ·
  refine LI_opP hF rfl rfl (op_pr (pr_un (v := .bool true) rfl rfl rfl) rfl rfl ?_)
  refine LI_opP hF rfl rfl (op_pr (pr_move rfl rfl) rfl rfl ?_)
  refine LI_skip hF rfl rfl rfl ?_
  refine LI_skip hF rfl rfl rfl ?_
  refine LI_skip hF rfl rfl rfl ?_
  refine LI_skip hF rfl rfl rfl ?_
  refine LI_skip hF rfl rfl rfl ?_
  refine LI_skip hF rfl rfl rfl ?_
  refine LI_skip hF rfl rfl rfl ?_
  refine LI_skip hF rfl rfl rfl ?_
  refine LI_skip hF rfl rfl rfl ?_
  refine LI_opP hF rfl rfl (op_pr (pr_pick_t rfl rfl rfl) rfl rfl ?_)
  refine LI_nil ?_
  refine T_cond_t rfl ?_
  refine T_ret ?_
  exact T_finX rfl rfl 0 rfl
set_option maxHeartbeats 4000000 in
theorem padded_f (A : Option Addr) (n : Nat) (c : Nat) (w : World) (hO : HOK [] w)  : Calls Try.prog 57 [(.slice A n c)].toArray w (Ret (T := Nat) [] w (fun g1 => True) (fun g1 => (.func (.func 65) #[] [(.pointer (some ⟨g1, 0, none⟩))].toArray)) (fun g1 => [.old (some ⟨g1, 0, none⟩) 1 1 1 [(.slice A n c)]])) := by
 have hF : Wid Fence.wide := wid_wide
 refine enter (c := _) Try.func57 rfl [] [(.slice A n c)] [] (by rw [Try.ntmps57]; rfl) (own_rds hO rfl) ?_
 rw [Try.ntmps57]
 refine T_re [(0, (.slice A n c))] (sc rfl sn) ?_
 refine T_he [] [] ⟨by decide, rfl⟩ ?_
 refine Tsr hF rfl ?_
 refine L_op rfl (op_box (zs := [(.slice A n c)]) rfl rfl rfl rfl rfl (fun g1 => ?_))
 refine la rfl rfl rfl rfl rfl ?_
 refine L_nil ?_
 refine Tsr hF rfl ?_
 refine lo rfl (pr_mkfn (us := []) (vs := [(.pointer (some ⟨g1, 0, none⟩))]) rfl rfl rfl) rfl rfl ?_
 refine la rfl rfl rfl rfl rfl ?_
 refine L_nil ?_
 refine T_ret ?_
 refine T_oldb 0 (zs := [(.slice A n c)]) 0 1 1 1 rfl rfl rfl sd sd ?_
 exact T_fin g1 (by first | trivial | omega | (simp; done)) (res1 rfl rfl) [0] ⟨by decide, rfl⟩ rfl
set_option maxRecDepth 100000 in
set_option maxHeartbeats 4000000 in
theorem atag_f (key : List (BitVec 8)) (nonce : List (BitVec 8)) (aad : List (BitVec 8)) (cs : List (BitVec 8)) (A1 : Option Addr) (n1 : Nat) (c1 : Nat) (A2 : Option Addr) (n2 : Nat) (c2 : Nat) (w : World) (hO : HOK [.rd A1 1 n1 c1 (aad.map b8), .rd A2 1 n2 c2 (cs.map b8)] w) (hk : key.length = 32) (hn : nonce.length = 12) (h1 : aad.length = n1) (h2 : cs.length = n2) (h3 : n1 ≤ 100000000) (h4 : n2 ≤ 100000000) : Calls Try.prog 44 [(.agg (key.map b8).toArray), (.agg (nonce.map b8).toArray), (.slice A1 n1 c1), (.slice A2 n2 c2)].toArray w (Ret (T := Unit) [] w (fun _ => True) (fun _ => (.agg ((atag key nonce aad cs).map b8).toArray)) (fun _ => [])) := by
 have hbl := cblock_len key 0#32 nonce
 have hal := atext_le aad cs
 have htl := atag_len key nonce aad cs
 have h32 : (List.take 32 (cblock key 0#32 nonce)).length = 32 := by rw [List.length_take, hbl]; rfl
 have hF : Wid Fence.wide := wid_wide
 refine enter_m (c := _) Try.func44 rfl [] [(.agg (key.map b8).toArray), (.agg (nonce.map b8).toArray), (.slice A1 n1 c1), (.slice A2 n2 c2)] [.rd A1 1 n1 c1 (aad.map b8), .rd A2 1 n2 c2 (cs.map b8)] (by rw [Try.ntmps44]; rfl) (own_rds hO rfl) ?_
 rw [Try.ntmps44]
 refine T_re [(0, (.agg (key.map b8).toArray)), (1, (.agg (nonce.map b8).toArray)), (2, (.slice A1 n1 c1)), (3, (.slice A2 n2 c2))] (sc rfl (sc rfl (sc rfl (sc rfl sn)))) ?_
 refine T_he [0, 1] [.rd A1 1 n1 c1 (aad.map b8), .rd A2 1 n2 c2 (cs.map b8)] ⟨by decide, rfl⟩ ?_
 refine Tsr hF rfl ?_
 refine L_op rfl (op_box (zs := (key.map b8)) rfl rfl rfl rfl rfl (fun g1 => ?_))
 refine L_op rfl (op_box (zs := (nonce.map b8)) rfl rfl rfl rfl rfl (fun g2 => ?_))
 refine L_op rfl (op_alloc (z := .agg ((List.replicate 16 0#8).map b8).toArray) (zs := ((List.replicate 16 0#8).map b8)) kr rfl rfl rfl rfl (fun g3 => ?_))
 refine L_nil ?_
 refine Tsr hF rfl ?_
 refine lq rfl (ld_agg (ds := (key.map b8)) 2 rfl agg_all Try.underlying22 rfl (fwz (n := 32) kr sd) rfl rfl) rfl rfl ?_
 refine lq rfl (ld_agg (ds := (nonce.map b8)) 1 rfl agg_all Try.underlying38 rfl (fwz (n := 12) kr sd) rfl rfl) rfl rfl ?_
 refine L_op rfl (op_cn (fun w hw => cblock_f key (0#32) nonce w (hok_nil w) (by first | assumption | exact sd) (by first | assumption | exact sd)) (enters_of Try.func56 kr rfl) rfl rfl rfl rfl rfl (fun t4 q5 => ?_))
 refine L_op rfl (op_alloc (z := .agg ((List.replicate 64 0#8).map b8).toArray) (zs := ((List.replicate 64 0#8).map b8)) kr rfl rfl rfl rfl (fun g6 => ?_))
 refine L_op rfl (op_sto (n := 64) (vs := ((cblock key (0#32) nonce).map b8)) 0 rfl rfl kr (all8_one _) kr sd rfl rfl rfl rfl ?_)
 refine L_nil ?_
 refine Tsr hF rfl ?_
 refine L_op rfl (op_alloc (z := (.slice none 0 0)) (zs := [(.slice none 0 0)]) kr rfl rfl rfl rfl (fun g7 => ?_))
 refine L_nil ?_
 refine T_seq ?_
 refine Tsr hF rfl ?_
 refine lm rfl rfl rfl rfl rfl ?_
 refine lm rfl rfl rfl rfl rfl ?_
 refine L_op rfl (op_bslice (e := 25) (zs := [(.slice A1 n1 c1), (.slice A2 n2 c2)]) (qs := [(0, (.slice A1 n1 c1)), (1, (.slice A2 n2 c2))]) (fun _ => by kernel_rfl) rfl rfl rfl rfl (fun g8 => ?_))
 refine T_oldb 0 (zs := [(.slice A1 n1 c1), (.slice A2 n2 c2)]) 0 1 2 2 rfl rfl rfl (Nat.le_refl _) (by omega) ?_
 refine T_tord 0 rfl ?_
 refine L_op rfl (op_cn (fun w hw => padded_f (some ⟨g8, 0, none⟩) 2 2 w (hok_nil w) ) (enters_of Try.func57 kr rfl) rfl rfl rfl rfl rfl (fun t9 q10 => ?_))
 obtain ⟨g1_11, eg1_11⟩ : ∃ x, x = t9 := ⟨_, rfl⟩
 subst eg1_11
 refine L_nil ?_
 refine T_block ?_
 refine T_tord 0 rfl ?_
 refine T_nilrow 25 1 ?_
 refine T_as 0 _ (.row (.slice none 0 0) 25 1 0 (([] : List Pt).map Pt.sl)) rfl rfl ?_
 refine T_allnil ?_
 refine T_range (Θ := Option Addr × Nat × Nat) (T := Option Addr × Nat × List Pt) (Tx := Unit) (cap := [(.pointer (some ⟨g1_11, 0, none⟩))]) (ps := [19]) (padded_seq aad cs A1 n1 c1 A2 n2 c2 (some ⟨g8, 0, none⟩) g1_11 sd sd sd sd) rfl (enters_of Try.func65 kr rfl) (fun k ⟨A1_, c1_, Q⟩ => Q.length = k ∧ catp Q = pdcat aad cs k) (fun k ⟨A1_, c1_, Q⟩ => [.all Q, .row (.slice A1_ k c1_) 25 1 k (Q.map Pt.sl), .rd (some ⟨g1_11, 0, none⟩) 1 1 1 [(.slice (some ⟨g8, 0, none⟩) 2 2)], .rd (some ⟨g8, 0, none⟩) 1 2 2 [(.slice A1 n1 c1), (.slice A2 n2 c2)], .blk g7 23 [(.slice A1_ k c1_)], .blk g6 84 ((cblock key (0#32) nonce).map b8), .blk g3 27 ((List.replicate 16 0#8).map b8), .blk g2 38 (nonce.map b8), .blk g1 22 (key.map b8), .rd A1 1 n1 c1 (aad.map b8), .rd A2 1 n2 c2 (cs.map b8)]) (fun _ => False) (fun _ => []) 0 (none, 0, []) (⟨rfl, by rw [pdcat_zero]; rfl⟩) [0, 1, 2, 3, 4, 5, 6, 7, 8, 9, 10] ⟨by decide, rfl⟩ [2, 3, 9, 10] rfl rfl (fun _ _ => rfl) (fun _ => rfl) (fun _ _ => rfl) (fun _ _ => rfl) rfl (fun _ => trivial) ?_ ?_ ?_
 ·
  intro C2 w2 lo2 rs2 l D m k t th rc hrec hk hp
  obtain ⟨A1_, c1_, Q⟩ := t
  obtain ⟨B, m, c⟩ := th
  have hp : Q.length = k ∧ catp Q = pdcat aad cs k := hp
  have hk : k < 5 := hk
  have hk5 : k ≤ 4 := by omega
  have hF : Wid (Fence.wide.inRound l) := wid_round l
  refine T_re [(10, (.pointer (some ⟨g7, 0, none⟩))), (19, (.slice B m c))] (sc rfl (sc rfl sn)) ?_
  refine T_he [0, 1, 2, 3, 4, 5, 6, 7, 8, 9, 10, 11, 12, 13] [.rd B 1 m c ((pdc aad cs k).map b8), .obj l (.loop rc), .obj D (.deferred (some [])), .all Q, .row (.slice A1_ k c1_) 25 1 k (Q.map Pt.sl), .rd (some ⟨g1_11, 0, none⟩) 1 1 1 [(.slice (some ⟨g8, 0, none⟩) 2 2)], .rd (some ⟨g8, 0, none⟩) 1 2 2 [(.slice A1 n1 c1), (.slice A2 n2 c2)], .blk g7 23 [(.slice A1_ k c1_)], .blk g6 84 ((cblock key (0#32) nonce).map b8), .blk g3 27 ((List.replicate 16 0#8).map b8), .blk g2 38 (nonce.map b8), .blk g1 22 (key.map b8), .rd A1 1 n1 c1 (aad.map b8), .rd A2 1 n2 c2 (cs.map b8)] ⟨by decide, rfl⟩ ?_
  refine T_reg hF rfl ?_
  refine la rfl rfl rfl rfl rfl ?_
  refine L_nil ?_
  refine T_begun 1 rfl hrec ?_
  refine T_block ?_
  refine T_reg hF rfl ?_
  refine lq rfl (ld_blk 7 rfl rfl Try.underlying23 rfl rfl rfl) rfl rfl ?_
  refine lm rfl rfl rfl rfl rfl ?_
  refine L_op rfl (op_bslice (e := 25) (zs := [(.slice B m c)]) (qs := [(0, (.slice B m c))]) (fun _ => by kernel_rfl) rfl rfl rfl rfl (fun g12 => ?_))
  refine L_op rfl (op_append (z := (.slice none 0 0)) (size := 1) (bytes := 24) 5 rfl Try.underlying23 kr kr (by decide) (src_full (z := 1) 0 rfl rfl sd sd) (by simp [Value.oneCell']) sd sd rfl rfl rfl rfl rfl (fun A13 C14 => ?_))
  refine T_as 0 _ (.row (.slice A13 (k + 1) C14) 25 1 (k + 1) ((Q ++ [(Pt.mk B m c (pdc aad cs k))]).map Pt.sl)) rfl (by first | rfl | (congr 1; simp; done) | (simp only [List.map_append]; rfl) | (rw [List.map_append]; rfl)) ?_
  refine L_op rfl (op_store (vs := [(.slice A13 (k + 1) C14)]) (cs' := [(.slice A13 (k + 1) C14)]) 8 rfl rfl kr (one_one rfl) (by first | decide | simp | exact Nat.le_refl _) rfl rfl rfl rfl rfl ?_)
  refine L_nil ?_
  refine T_alladd 6 4 rfl rfl ?_
  exact T_on (A13, C14, (Q ++ [(Pt.mk B m c (pdc aad cs k))])) (⟨by simp [hp.1], pd_next hp.2⟩) [4, 6, 0, 2, 8, 9, 1, 10, 11, 12, 13, 14, 15] ⟨by decide, rfl⟩
 ·
  intro D t hp
  obtain ⟨A1_, c1_, Q⟩ := t
  have hp : Q.length = 5 ∧ catp Q = pdcat aad cs 5 := hp
  have hcq : catp Q = atext aad cs := by rw [hp.2, pdcat_all]
  refine T_re [(8, (.pointer (some ⟨g3, 0, none⟩))), (9, (.pointer (some ⟨g6, 0, none⟩))), (10, (.pointer (some ⟨g7, 0, none⟩)))] (sc rfl (sc rfl (sc rfl sn))) ?_
  refine T_he [0, 1, 2, 3, 4, 5, 6, 7, 8, 9, 10, 11] [.obj D (.deferred (some [])), .all Q, .row (.slice A1_ 5 c1_) 25 1 5 (Q.map Pt.sl), .rd (some ⟨g1_11, 0, none⟩) 1 1 1 [(.slice (some ⟨g8, 0, none⟩) 2 2)], .rd (some ⟨g8, 0, none⟩) 1 2 2 [(.slice A1 n1 c1), (.slice A2 n2 c2)], .blk g7 23 [(.slice A1_ 5 c1_)], .blk g6 84 ((cblock key (0#32) nonce).map b8), .blk g3 27 ((List.replicate 16 0#8).map b8), .blk g2 38 (nonce.map b8), .blk g1 22 (key.map b8), .rd A1 1 n1 c1 (aad.map b8), .rd A2 1 n2 c2 (cs.map b8)] ⟨by decide, rfl⟩ ?_
  refine T_seq ?_
  refine T_regD [.obj D (.deferred (some [])), .all Q, .row (.slice A1_ 5 c1_) 25 1 5 (Q.map Pt.sl), .rd (some ⟨g1_11, 0, none⟩) 1 1 1 [(.slice (some ⟨g8, 0, none⟩) 2 2)], .rd (some ⟨g8, 0, none⟩) 1 2 2 [(.slice A1 n1 c1), (.slice A2 n2 c2)], .blk g7 23 [(.slice A1_ 5 c1_)], .blk g6 84 ((cblock key (0#32) nonce).map b8), .blk g3 27 ((List.replicate 16 0#8).map b8), .blk g2 38 (nonce.map b8), .blk g1 22 (key.map b8), .rd A1 1 n1 c1 (aad.map b8), .rd A2 1 n2 c2 (cs.map b8)] 5 6 #[false, false, false, false, false, false] hF kr kr ?_
  refine D_pure (i := 0) [0, 1, 2, 3, 4, 5, 6, 7, 8, 9, 10, 11] rfl kr rfl (pr_sla (l := 0) (u := 32) (m := 0) sd sd sd rfl Try.underlying84 (z := 1) kr rfl rfl rfl ⟨_, rfl⟩) (.inr rfl) rfl rfl ?_
  refine D_pure (i := 1) [0, 1, 2, 3, 4, 5, 6, 7, 8, 9, 10, 11] rfl kr rfl (pr_s2a sd Try.underlying22 rfl rfl) (.inr rfl) rfl rfl ?_
  refine D_take (i := 2) [0, 1, 2, 3, 4, 5, 6, 7, 8, 9, 10, 11] rfl kr rfl (ld_agg (ds := ((List.take 32 (cblock key (0#32) nonce)).map b8)) 6 rfl (by simp [List.map_take, List.map_drop]) Try.underlying22 rfl (fwz (n := 32) kr sd) rfl rfl) rfl rfl rfl ?_
  refine D_take (i := 3) [0, 1, 2, 3, 4, 5, 6, 7, 8, 9, 10, 11] rfl kr rfl (ld_blk 5 rfl rfl Try.underlying23 rfl rfl rfl) rfl rfl rfl ?_
  refine D_one 4 _ rfl kr rfl (op_cn (fun w hw => ptag_f (List.take 32 (cblock key (0#32) nonce)) Q A1_ 5 c1_ w (hok_cons ((src_row 2 rfl) w hw) (hok_cons (hw _ (List.mem_of_getElem? (i := 1) rfl)) (hok_nil w))) sd hp.1 (by omega) (by rw [hcq]; omega)) (enters_of Try.func18 kr rfl) rfl rfl rfl rfl rfl (fun t15 q16 => ?_))
  refine T_slot 28 _ (.agg ((atag key nonce aad cs).map b8).toArray) rfl (by rw [hcq, atag_def]) ?_
  refine D_on [0, 1, 2, 3, 4, 5, 6, 7, 8, 9, 10, 11] rfl ?_
  refine D_one 5 _ rfl kr rfl (op_sto (n := 16) (vs := ((atag key nonce aad cs).map b8)) 7 rfl rfl kr (all8_one _) kr sd rfl rfl rfl rfl ?_)
  refine D_past kr ?_
  refine D_done kr ?_
  refine T_ret ?_
  exact T_finM 1 rfl () (by first | trivial | omega | (simp; done)) (resb 0 rfl rfl rfl Try.underlying27 rfl (fwz (n := 16) kr sd)) [] ⟨by decide, rfl⟩ rfl
 ·
  exact fun D t hq => hq.elim
end Go.Proofs.Ytemjinkdfjoicaa
