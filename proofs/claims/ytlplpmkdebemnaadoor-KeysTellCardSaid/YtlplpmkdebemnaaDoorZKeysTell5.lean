/- Walks by facts, part 5: what the functions that the law reaches answer. No conditions but lengths. -/
import Derived.Test.YtlplpmkdebemnaaDoorZKeysTell4
import Derived.Test.YtlplpmkdebemnaaDoorProg
import Derived.Laws.Concat
namespace Go.Proofs.YtlplpmkdebemnaaDoor
set_option linter.unusedVariables false
set_option linter.unusedSimpArgs false
set_option linter.unnecessarySimpa false
set_option maxRecDepth 100000
open Go.RowKit Bv Fw

set_option maxHeartbeats 4000000 in
theorem pieces_seq (key : List (BitVec 8)) (info : List (BitVec 8)) (A : Option Addr) (n : Nat) (c : Nat) (g1 : Nat) (g2 : Nat) (hkl : key.length = 32) (hi : info.length = n) (hn : n ≤ 100000000) : SeqC (Θ := Option Addr) Tryd.prog 61 [(.pointer (some ⟨g1, 0, none⟩)), (.pointer (some ⟨g2, 0, none⟩))] [.rd (some ⟨g1, 0, none⟩) 1 32 32 (key.map b8), .rd (some ⟨g2, 0, none⟩) 1 1 1 [(.slice A n c)], .rd A 1 n c (info.map b8)] 255 (fun k B => [(.slice B 32 32)]) (fun k B => [.rd B 1 32 32 ((hkpc key info (k + 1)).map b8)]) := by
 have hF : Wid Fence.wide := wid_wide
 refine enter_seq (c := _) Tryd.func61 rfl (by rw [Tryd.ntmps61]; rfl) rfl ?_
 intro l J Jx W O R hsJ hsX hy hend
 rw [Tryd.ntmps61]
 refine T_re [(0, (.func (.yield l) #[] #[])), (1, (.pointer (some ⟨g1, 0, none⟩))), (2, (.pointer (some ⟨g2, 0, none⟩)))] (sc rfl (sc rfl (sc rfl sn))) ?_
 refine T_he [0, 1, 2, 3] [.inv W.heap.size O R (J 0 O R), .rd (some ⟨g1, 0, none⟩) 1 32 32 (key.map b8), .rd (some ⟨g2, 0, none⟩) 1 1 1 [(.slice A n c)], .rd A 1 n c (info.map b8)] ⟨by decide, rfl⟩ ?_
 refine Tsr hF rfl ?_
 refine la rfl rfl rfl rfl rfl ?_
 refine L_nil ?_
 refine Tsr hF rfl ?_
 refine lm rfl rfl rfl rfl rfl ?_
 refine L_nil ?_
 refine T_block ?_
 refine T_rdadd (.rd none 1 0 0 []) rfl rfl rfl rfl (fun w _ => ⟨⟨rfl, Nat.le_refl _, Nat.zero_le _, fun _ => rfl, fun ad h => by cases h⟩, fun ad h => by cases h⟩) (fun r hr => by simp [HA.rids, rid] at hr) ?_
 refine T_as 0 _ (.rd none 1 0 0 ((hkpc key info 0).map b8)) rfl (by rw [hkpc_zero]; rfl) ?_
 refine T_loop (T := Nat × List Nat × List Nat × Option Addr × Nat × Nat) (fun ⟨k, O, R, lA, ln, lc⟩ => k ≤ 255 ∧ (hkpc key info k).length = ln) (fun ⟨k, O, R, lA, ln, lc⟩ => [(0, (.func (.yield l) #[] #[])), (1, (.pointer (some ⟨g1, 0, none⟩))), (2, (.pointer (some ⟨g2, 0, none⟩))), (4, (.slice lA ln lc)), (7, (.int .i64 ((k : Nat) : Int)))]) (fun ⟨k, O, R, lA, ln, lc⟩ => [.inv W.heap.size O R (J k O R), .rd lA 1 ln lc ((hkpc key info k).map b8), .rd (some ⟨g1, 0, none⟩) 1 32 32 (key.map b8), .rd (some ⟨g2, 0, none⟩) 1 1 1 [(.slice A n c)], .rd A 1 n c (info.map b8)]) (fun ⟨k, O, R, lA, ln, lc⟩ => 255 - k) (0, O, R, none, 0, 0) (by simp [hkpc_zero]) (sc rfl (sc rfl (sc rfl (sc rfl (sc rfl sn))))) [1, 0, 2, 3, 4] ⟨by decide, rfl⟩ ?_
 rintro ⟨k, O, R, lA, ln, lc⟩ hp
 have hp : k ≤ 255 ∧ (hkpc key info k).length = ln := hp
 have hle := hkpc_le key info k
 have hpl := hkpc_len key info k
 refine T_re [(0, (.func (.yield l) #[] #[])), (1, (.pointer (some ⟨g1, 0, none⟩))), (2, (.pointer (some ⟨g2, 0, none⟩))), (4, (.slice lA ln lc)), (7, (.int .i64 ((k : Nat) : Int)))] (sc rfl (sc rfl (sc rfl (sc rfl (sc rfl sn))))) ?_
 refine T_he [0, 1, 2, 3, 4] [.inv W.heap.size O R (J k O R), .rd lA 1 ln lc ((hkpc key info k).map b8), .rd (some ⟨g1, 0, none⟩) 1 32 32 (key.map b8), .rd (some ⟨g2, 0, none⟩) 1 1 1 [(.slice A n c)], .rd A 1 n c (info.map b8)] ⟨by decide, rfl⟩ ?_
 refine Tsr hF rfl ?_
 refine lo rfl (pr_cmp (bo := .lss) (nc_lt (a := k) (b := 255)) rfl rfl rfl rfl) rfl rfl ?_
 refine L_nil ?_
 refine T_seq ?_
 refine T_cond (decide (k < 255)) rfl (fun hc_1 => ?_) (fun hc_1 => ?_)
 ·
  have hc_1 := of_decide_eq_true hc_1
  refine T_skip ?_
  refine T_seq ?_
  refine T_block ?_
  refine Tsr hF rfl ?_
  refine lm rfl rfl rfl rfl rfl ?_
  refine la rfl rfl rfl rfl rfl ?_
  refine L_nil ?_
  refine T_seq ?_
  refine T_regD [.inv W.heap.size O R (J k O R), .rd lA 1 ln lc ((hkpc key info k).map b8), .rd (some ⟨g1, 0, none⟩) 1 32 32 (key.map b8), .rd (some ⟨g2, 0, none⟩) 1 1 1 [(.slice A n c)], .rd A 1 n c (info.map b8)] 11 11 #[false, false, false, false, false, false, false, false, false, false, false] hF kr kr ?_
  refine D_pure (i := 0) [0, 1, 2, 3, 4] rfl kr rfl (pr_sla (l := 0) (u := 32) (m := 0) sd sd sd rfl Tryd.underlying34 (z := 1) kr rfl rfl rfl rfl) (.inr rfl) rfl rfl ?_
  refine D_pure (i := 1) [0, 1, 2, 3, 4] rfl kr rfl (pr_move rfl rfl) (.inr rfl) rfl rfl ?_
  refine D_pure (i := 3) [0, 1, 2, 3, 4] rfl kr rfl (pr_move rfl rfl) (.inr rfl) rfl rfl ?_
  refine D_pure (i := 4) [0, 1, 2, 3, 4] rfl kr rfl (pr_add (na_i64 (a := k) (b := 1) sd) rfl rfl rfl) (.inr rfl) rfl rfl ?_
  refine D_pure (i := 5) [0, 1, 2, 3, 4] rfl kr rfl (pr_cv (nw8 (k + 1)) Tryd.underlying3 Tryd.underlying5 rfl rfl) (.inr rfl) rfl rfl ?_
  refine D_take (i := 2) [0, 1, 2, 3, 4] rfl kr rfl (ld_rdb (src_rd 3 rfl) rfl Tryd.underlying29 rfl rfl rfl) rfl rfl rfl ?_
  refine D_join (T := Nat) (fun _ => True) (fun g7 => [(0, (.func (.yield l) #[] #[])), (1, (.pointer (some ⟨g1, 0, none⟩))), (2, (.pointer (some ⟨g2, 0, none⟩))), (6, (.pointer (some ⟨g7, 0, none⟩))), (7, (.int .i64 ((k : Nat) : Int)))]) (fun g7 => [.blk g7 34 ((hkpc key info (k + 1)).map b8), .inv W.heap.size O R (J k O R), .rd lA 1 ln lc ((hkpc key info k).map b8), .rd (some ⟨g1, 0, none⟩) 1 32 32 (key.map b8), .rd (some ⟨g2, 0, none⟩) 1 1 1 [(.slice A n c)], .rd A 1 n c (info.map b8)]) ?_ ?_
  ·
   refine D_all [6, 9] kr (by simp) ⟨⟨_, rfl, rfl, ?_⟩, ⟨_, rfl, rfl, ?_⟩, trivial⟩
   ·
    refine id (op_bslice (e := 5) (zs := [(b8 (BitVec.ofNat 8 (k + 1)))]) (qs := [(0, (b8 (BitVec.ofNat 8 (k + 1))))]) (fun _ => by kernel_rfl) rfl rfl rfl rfl (fun g8 => ?_))
    refine D_on [1, 2, 3, 4, 5] rfl ?_
    refine D_all [7, 9] kr (by simp) ⟨⟨_, rfl, rfl, ?_⟩, ⟨_, rfl, rfl, ?_⟩, trivial⟩
    ·
     refine id (op_bslice (e := 29) (zs := [(.slice lA ln lc), (.slice A n c), (.slice (some ⟨g8, 0, none⟩) 1 1)]) (qs := [(0, (.slice lA ln lc)), (1, (.slice A n c)), (2, (.slice (some ⟨g8, 0, none⟩) 1 1))]) (fun _ => by kernel_rfl) rfl rfl rfl rfl (fun g9 => ?_))
     refine D_on [2, 3, 4, 5, 6] rfl ?_
     refine D_all [8, 9] kr (by simp) ⟨⟨_, rfl, rfl, ?_⟩, ⟨_, rfl, rfl, ?_⟩, trivial⟩
     ·
      refine id (op_cn (fun w hw => tag_f key (some ⟨g1, 0, none⟩) 32 32 ([(Pt.mk lA ln lc (hkpc key info k)), (Pt.mk A n c info), (Pt.mk (some ⟨g8, 0, none⟩) 1 1 [(BitVec.ofNat 8 (k + 1))])]) (some ⟨g9, 0, none⟩) 3 3 w (hok_cons ((src_rd 4 rfl) w hw) (hok_cons ((src_full (z := 1) 0 rfl rfl sd sd) w hw) (hok_cons (all_cons ((src_rd 3 rfl) w hw) (all_cons ((src_rd 6 rfl) w hw) (all_cons ((src_full (z := 1) 1 rfl rfl sd sd) w hw) (all_nil w)))) (hok_nil w)))) (by first | assumption | omega | (simp; done) | (simp; omega)) sd sd sd (by first | assumption | omega | (simp only [catp_cons, catp_nil, List.append_nil, List.length_append]; omega) | (simp [catp_cons, catp_nil]; done) | (simp [catp_cons, catp_nil]; omega))) (enters_of Tryd.func52 kr rfl) rfl rfl rfl rfl rfl (fun t10 q11 => ?_))
      refine T_slot 18 _ (.agg ((hkpc key info (k + 1)).map b8).toArray) rfl (by rw [hkpc_succ]; simp [catp_cons, catp_nil]) ?_
      refine D_on [2, 3, 4, 5, 6] rfl ?_
      refine D_one 9 _ rfl kr rfl (op_alloc (z := .agg ((List.replicate 32 0#8).map b8).toArray) (zs := ((List.replicate 32 0#8).map b8)) kr rfl rfl rfl rfl (fun g12 => ?_))
      refine D_on [3, 4, 5, 6, 7] rfl ?_
      refine D_one 10 _ rfl kr rfl (op_sto (n := 32) (vs := ((hkpc key info (k + 1)).map b8)) 0 rfl rfl kr (all8_one _) kr sd rfl rfl rfl rfl ?_)
      refine D_on [3, 4, 5, 6, 7] rfl ?_
      refine D_done kr ?_
      exact T_meet g12 trivial (sc rfl (sc rfl (sc rfl (sc rfl (sc rfl sn))))) [0, 3, 4, 5, 6, 7] ⟨by decide, rfl⟩
     ·
      refine id (op_alloc (z := .agg ((List.replicate 32 0#8).map b8).toArray) (zs := ((List.replicate 32 0#8).map b8)) kr rfl rfl rfl rfl (fun g13 => ?_))
      refine D_on [3, 4, 5, 6, 7] rfl ?_
      refine D_one 8 _ rfl kr rfl (op_cn (fun w hw => tag_f key (some ⟨g1, 0, none⟩) 32 32 ([(Pt.mk lA ln lc (hkpc key info k)), (Pt.mk A n c info), (Pt.mk (some ⟨g8, 0, none⟩) 1 1 [(BitVec.ofNat 8 (k + 1))])]) (some ⟨g9, 0, none⟩) 3 3 w (hok_cons ((src_rd 5 rfl) w hw) (hok_cons ((src_full (z := 1) 1 rfl rfl sd sd) w hw) (hok_cons (all_cons ((src_rd 4 rfl) w hw) (all_cons ((src_rd 7 rfl) w hw) (all_cons ((src_full (z := 1) 2 rfl rfl sd sd) w hw) (all_nil w)))) (hok_nil w)))) (by first | assumption | omega | (simp; done) | (simp; omega)) sd sd sd (by first | assumption | omega | (simp only [catp_cons, catp_nil, List.append_nil, List.length_append]; omega) | (simp [catp_cons, catp_nil]; done) | (simp [catp_cons, catp_nil]; omega))) (enters_of Tryd.func52 kr rfl) rfl rfl rfl rfl rfl (fun t14 q15 => ?_))
      refine T_slot 18 _ (.agg ((hkpc key info (k + 1)).map b8).toArray) rfl (by rw [hkpc_succ]; simp [catp_cons, catp_nil]) ?_
      refine D_on [3, 4, 5, 6, 7] rfl ?_
      refine D_one 10 _ rfl kr rfl (op_sto (n := 32) (vs := ((hkpc key info (k + 1)).map b8)) 0 rfl rfl kr (all8_one _) kr sd rfl rfl rfl rfl ?_)
      refine D_on [3, 4, 5, 6, 7] rfl ?_
      refine D_done kr ?_
      exact T_meet g13 trivial (sc rfl (sc rfl (sc rfl (sc rfl (sc rfl sn))))) [0, 3, 4, 5, 6, 7] ⟨by decide, rfl⟩
    ·
     refine id (op_alloc (z := .agg ((List.replicate 32 0#8).map b8).toArray) (zs := ((List.replicate 32 0#8).map b8)) kr rfl rfl rfl rfl (fun g16 => ?_))
     refine D_on [2, 3, 4, 5, 6] rfl ?_
     refine D_one 7 _ rfl kr rfl (op_bslice (e := 29) (zs := [(.slice lA ln lc), (.slice A n c), (.slice (some ⟨g8, 0, none⟩) 1 1)]) (qs := [(0, (.slice lA ln lc)), (1, (.slice A n c)), (2, (.slice (some ⟨g8, 0, none⟩) 1 1))]) (fun _ => by kernel_rfl) rfl rfl rfl rfl (fun g17 => ?_))
     refine D_on [3, 4, 5, 6, 7] rfl ?_
     refine D_one 8 _ rfl kr rfl (op_cn (fun w hw => tag_f key (some ⟨g1, 0, none⟩) 32 32 ([(Pt.mk lA ln lc (hkpc key info k)), (Pt.mk A n c info), (Pt.mk (some ⟨g8, 0, none⟩) 1 1 [(BitVec.ofNat 8 (k + 1))])]) (some ⟨g17, 0, none⟩) 3 3 w (hok_cons ((src_rd 5 rfl) w hw) (hok_cons ((src_full (z := 1) 0 rfl rfl sd sd) w hw) (hok_cons (all_cons ((src_rd 4 rfl) w hw) (all_cons ((src_rd 7 rfl) w hw) (all_cons ((src_full (z := 1) 2 rfl rfl sd sd) w hw) (all_nil w)))) (hok_nil w)))) (by first | assumption | omega | (simp; done) | (simp; omega)) sd sd sd (by first | assumption | omega | (simp only [catp_cons, catp_nil, List.append_nil, List.length_append]; omega) | (simp [catp_cons, catp_nil]; done) | (simp [catp_cons, catp_nil]; omega))) (enters_of Tryd.func52 kr rfl) rfl rfl rfl rfl rfl (fun t18 q19 => ?_))
     refine T_slot 18 _ (.agg ((hkpc key info (k + 1)).map b8).toArray) rfl (by rw [hkpc_succ]; simp [catp_cons, catp_nil]) ?_
     refine D_on [3, 4, 5, 6, 7] rfl ?_
     refine D_one 10 _ rfl kr rfl (op_sto (n := 32) (vs := ((hkpc key info (k + 1)).map b8)) 1 rfl rfl kr (all8_one _) kr sd rfl rfl rfl rfl ?_)
     refine D_on [3, 4, 5, 6, 7] rfl ?_
     refine D_done kr ?_
     exact T_meet g16 trivial (sc rfl (sc rfl (sc rfl (sc rfl (sc rfl sn))))) [0, 3, 4, 5, 6, 7] ⟨by decide, rfl⟩
   ·
    refine id (op_alloc (z := .agg ((List.replicate 32 0#8).map b8).toArray) (zs := ((List.replicate 32 0#8).map b8)) kr rfl rfl rfl rfl (fun g20 => ?_))
    refine D_on [1, 2, 3, 4, 5] rfl ?_
    refine D_one 6 _ rfl kr rfl (op_bslice (e := 5) (zs := [(b8 (BitVec.ofNat 8 (k + 1)))]) (qs := [(0, (b8 (BitVec.ofNat 8 (k + 1))))]) (fun _ => by kernel_rfl) rfl rfl rfl rfl (fun g21 => ?_))
    refine D_on [2, 3, 4, 5, 6] rfl ?_
    refine D_one 7 _ rfl kr rfl (op_bslice (e := 29) (zs := [(.slice lA ln lc), (.slice A n c), (.slice (some ⟨g21, 0, none⟩) 1 1)]) (qs := [(0, (.slice lA ln lc)), (1, (.slice A n c)), (2, (.slice (some ⟨g21, 0, none⟩) 1 1))]) (fun _ => by kernel_rfl) rfl rfl rfl rfl (fun g22 => ?_))
    refine D_on [3, 4, 5, 6, 7] rfl ?_
    refine D_one 8 _ rfl kr rfl (op_cn (fun w hw => tag_f key (some ⟨g1, 0, none⟩) 32 32 ([(Pt.mk lA ln lc (hkpc key info k)), (Pt.mk A n c info), (Pt.mk (some ⟨g21, 0, none⟩) 1 1 [(BitVec.ofNat 8 (k + 1))])]) (some ⟨g22, 0, none⟩) 3 3 w (hok_cons ((src_rd 5 rfl) w hw) (hok_cons ((src_full (z := 1) 0 rfl rfl sd sd) w hw) (hok_cons (all_cons ((src_rd 4 rfl) w hw) (all_cons ((src_rd 7 rfl) w hw) (all_cons ((src_full (z := 1) 1 rfl rfl sd sd) w hw) (all_nil w)))) (hok_nil w)))) (by first | assumption | omega | (simp; done) | (simp; omega)) sd sd sd (by first | assumption | omega | (simp only [catp_cons, catp_nil, List.append_nil, List.length_append]; omega) | (simp [catp_cons, catp_nil]; done) | (simp [catp_cons, catp_nil]; omega))) (enters_of Tryd.func52 kr rfl) rfl rfl rfl rfl rfl (fun t23 q24 => ?_))
    refine T_slot 18 _ (.agg ((hkpc key info (k + 1)).map b8).toArray) rfl (by rw [hkpc_succ]; simp [catp_cons, catp_nil]) ?_
    refine D_on [3, 4, 5, 6, 7] rfl ?_
    refine D_one 10 _ rfl kr rfl (op_sto (n := 32) (vs := ((hkpc key info (k + 1)).map b8)) 2 rfl rfl kr (all8_one _) kr sd rfl rfl rfl rfl ?_)
    refine D_on [3, 4, 5, 6, 7] rfl ?_
    refine D_done kr ?_
    exact T_meet g20 trivial (sc rfl (sc rfl (sc rfl (sc rfl (sc rfl sn))))) [0, 3, 4, 5, 6, 7] ⟨by decide, rfl⟩
  ·
   rintro g7 -
   refine T_re [(0, (.func (.yield l) #[] #[])), (1, (.pointer (some ⟨g1, 0, none⟩))), (2, (.pointer (some ⟨g2, 0, none⟩))), (6, (.pointer (some ⟨g7, 0, none⟩))), (7, (.int .i64 ((k : Nat) : Int)))] (sc rfl (sc rfl (sc rfl (sc rfl (sc rfl sn))))) ?_
   refine T_he [0, 1, 2, 3, 4, 5] [.blk g7 34 ((hkpc key info (k + 1)).map b8), .inv W.heap.size O R (J k O R), .rd lA 1 ln lc ((hkpc key info k).map b8), .rd (some ⟨g1, 0, none⟩) 1 32 32 (key.map b8), .rd (some ⟨g2, 0, none⟩) 1 1 1 [(.slice A n c)], .rd A 1 n c (info.map b8)] ⟨by decide, rfl⟩ ?_
   refine Tsr hF rfl ?_
   refine lo rfl (pr_sla (l := 0) (u := 32) (m := 0) sd sd sd rfl Tryd.underlying34 (z := 1) kr rfl rfl rfl rfl) rfl rfl ?_
   refine T_oldb 0 (zs := ((hkpc key info (k + 1)).map b8)) 0 1 32 32 rfl (by simp; omega) (by rw [List.drop_zero, List.take_of_length_le (by simp; omega)]) (by omega) (by omega) ?_
   refine T_tord 0 rfl ?_
   refine la rfl rfl rfl rfl rfl ?_
   refine L_nil ?_
   refine T_seq ?_
   refine T_regI ?_
   refine LI_opP hF rfl rfl (op_pr (pr_move rfl rfl) rfl rfl ?_)
   refine LI_opP hF rfl rfl (op_pr (pr_move rfl rfl) rfl rfl ?_)
   refine LI_op rfl (op_yield (k := k) (some ⟨g7, 0, none⟩ : Option Addr) hy sd hsJ hsX 1 rfl [0] rfl rfl rfl rfl rfl rfl rfl rfl rfl (fun _ => trivial) (fun O25 R26 => ?_) (fun O27 R28 => ?_))
   ·
    refine LI_opP hF rfl rfl (op_pr (pr_un (v := .bool false) rfl rfl rfl) rfl rfl ?_)
    refine LI_nil ?_
    refine T_cond_f rfl ?_
    refine T_skip ?_
    refine T_reg hF rfl ?_
    refine lo rfl (pr_add (na_i64 (a := k) (b := 1) sd) rfl rfl rfl) rfl rfl ?_
    refine lm rfl rfl rfl rfl rfl ?_
    refine L_nil ?_
    exact T_again (k + 1, O25, R26, some ⟨g7, 0, none⟩, 32, 32) (by simp; omega) (by first | trivial | ((try dsimp only); first | omega | (refine ⟨?_, ?_⟩ <;> omega) | (refine ⟨?_, ?_, ?_⟩ <;> omega) | (simp; done) | (simp; omega))) (sc rfl (sc rfl (sc rfl (sc rfl (sc rfl sn))))) [0, 1, 3, 4, 5] ⟨by decide, rfl⟩
   ·
    refine LI_opP hF rfl rfl (op_pr (pr_un (v := .bool true) rfl rfl rfl) rfl rfl ?_)
    refine LI_nil ?_
    refine T_cond_t rfl ?_
    refine T_ret ?_
    exact T_finX rfl rfl 0 rfl
 ·
  have hc_1 := of_decide_eq_false hc_1
  refine T_exit rfl ?_
  obtain rfl : k = 255 := by omega
  exact T_finJ rfl rfl 0 rfl
set_option maxHeartbeats 4000000 in
theorem pieces_f (key : List (BitVec 8)) (A : Option Addr) (n : Nat) (c : Nat) (w : World) (hO : HOK [] w) (hkl : key.length = 32) : Calls Tryd.prog 51 [(.agg (key.map b8).toArray), (.slice A n c)].toArray w (Ret (T := Nat × Nat) [] w (fun ⟨g1, g2⟩ => True) (fun ⟨g1, g2⟩ => (.func (.func 61) #[] [(.pointer (some ⟨g1, 0, none⟩)), (.pointer (some ⟨g2, 0, none⟩))].toArray)) (fun ⟨g1, g2⟩ => [.old (some ⟨g1, 0, none⟩) 1 32 32 (key.map b8), .old (some ⟨g2, 0, none⟩) 1 1 1 [(.slice A n c)]])) := by
 have hF : Wid Fence.wide := wid_wide
 refine enter (c := _) Tryd.func51 rfl [] _ [] (by rw [Tryd.ntmps51]; rfl) (own_rds hO rfl) ?_
 rw [Tryd.ntmps51]
 refine T_re [(0, (.agg (key.map b8).toArray)), (1, (.slice A n c))] (sc rfl (sc rfl sn)) ?_
 refine T_he [] [] ⟨by decide, rfl⟩ ?_
 refine Tsr hF rfl ?_
 refine L_op rfl (op_box (zs := (key.map b8)) rfl rfl rfl rfl rfl (fun g1 => ?_))
 refine L_op rfl (op_box (zs := [(.slice A n c)]) rfl rfl rfl rfl rfl (fun g2 => ?_))
 refine la rfl rfl rfl rfl rfl ?_
 refine L_nil ?_
 refine Tsr hF rfl ?_
 refine lo rfl (pr_mkfn (us := []) (vs := [(.pointer (some ⟨g1, 0, none⟩)), (.pointer (some ⟨g2, 0, none⟩))]) rfl rfl rfl) rfl rfl ?_
 refine la rfl rfl rfl rfl rfl ?_
 refine L_nil ?_
 refine T_ret ?_
 refine T_oldb 1 (zs := (key.map b8)) 0 1 32 32 rfl sd (by first | rfl | (rw [List.drop_zero, List.take_of_length_le (by simp; omega)]) | simp [List.map_take, List.map_drop]) sd sd ?_
 refine T_oldb 1 (zs := [(.slice A n c)]) 0 1 1 1 rfl rfl rfl sd sd ?_
 exact T_fin (g1, g2) (by first | trivial | omega | (simp; done)) (res1 rfl rfl) [1, 0] ⟨by decide, rfl⟩ rfl
set_option maxHeartbeats 4000000 in
theorem extract_f (salt : List (BitVec 8)) (A : Option Addr) (n : Nat) (c : Nat) (key : List (BitVec 8)) (B : Option Addr) (nt : Nat) (d : Nat) (w : World) (hO : HOK [.rd A 1 n c (salt.map b8), .rd B 1 nt d (key.map b8)] w) (hx : salt.length = n) (hn : n ≤ 900000000) (ht : key.length = nt) (hnt : nt ≤ 900000000) : Calls Tryd.prog 43 [(.slice A n c), (.slice B nt d)].toArray w (Ret (T := Unit) [] w (fun _ => True) (fun _ => (.agg ((mactag salt key).map b8).toArray)) (fun _ => [])) := by
 have hml := mactag_len salt key
 have hF : Wid Fence.wide := wid_wide
 refine enter (c := _) Tryd.func43 rfl [] _ [.rd A 1 n c (salt.map b8), .rd B 1 nt d (key.map b8)] (by rw [Tryd.ntmps43]; rfl) (own_rds hO rfl) ?_
 rw [Tryd.ntmps43]
 refine T_re [(0, (.slice A n c)), (1, (.slice B nt d))] (sc rfl (sc rfl sn)) ?_
 refine T_he [0, 1] [.rd A 1 n c (salt.map b8), .rd B 1 nt d (key.map b8)] ⟨by decide, rfl⟩ ?_
 refine Tsr hF rfl ?_
 refine L_op rfl (op_alloc (z := .agg ((List.replicate 32 0#8).map b8).toArray) (zs := ((List.replicate 32 0#8).map b8)) kr rfl rfl rfl rfl (fun g1 => ?_))
 refine L_nil ?_
 refine Tsr hF rfl ?_
 refine lm rfl rfl rfl rfl rfl ?_
 refine lm rfl rfl rfl rfl rfl ?_
 refine L_op rfl (op_bslice (e := 29) (zs := [(.slice B nt d)]) (qs := [(0, (.slice B nt d))]) (fun _ => by kernel_rfl) rfl rfl rfl rfl (fun g2 => ?_))
 refine L_op rfl (op_cn (fun w hw => tag_f salt A n c [(Pt.mk B nt d key)] (some ⟨g2, 0, none⟩) 1 1 w (hok_cons ((src_rd 2 rfl) w hw) (hok_cons ((src_full (z := 1) 0 rfl rfl sd sd) w hw) (hok_cons (all_cons ((src_rd 3 rfl) w hw) (all_nil w)) (hok_nil w)))) (by first | assumption | omega | (simp; done) | (simp; omega)) sd sd sd (by first | assumption | omega | (simp only [catp_cons, catp_nil, List.append_nil, List.length_append]; omega) | (simp [catp_cons, catp_nil]; done) | (simp [catp_cons, catp_nil]; omega))) (enters_of Tryd.func52 kr rfl) rfl rfl rfl rfl rfl (fun t3 q4 => ?_))
 refine T_slot 8 _ (.agg ((mactag salt key).map b8).toArray) rfl (by simp [catp_cons, catp_nil]) ?_
 refine L_op rfl (op_sto (n := 32) (vs := ((mactag salt key).map b8)) 1 rfl rfl kr (all8_one _) kr sd rfl rfl rfl rfl ?_)
 refine L_nil ?_
 refine T_ret ?_
 exact T_fin () (by first | trivial | omega | (simp; done)) (resb 0 rfl rfl rfl Tryd.underlying34 rfl (fwz (n := 32) kr sd)) [] ⟨by decide, rfl⟩ rfl
set_option maxHeartbeats 4000000 in
theorem rextract_f (salt : List (BitVec 8)) (A : Option Addr) (n : Nat) (c : Nat) (key : List (BitVec 8)) (B : Option Addr) (nt : Nat) (d : Nat) (w : World) (hO : HOK [.rd A 1 n c (salt.map b8), .rd B 1 nt d (key.map b8)] w) (hx : salt.length = n) (hn : n ≤ 900000000) (ht : key.length = nt) (hnt : nt ≤ 900000000) : Calls Tryd.prog 32 [(.slice A n c), (.slice B nt d)].toArray w (Ret (T := Unit) [] w (fun _ => True) (fun _ => (.agg ((mactag salt key).map b8).toArray)) (fun _ => [])) := by
 have hml := mactag_len salt key
 have hF : Wid Fence.wide := wid_wide
 refine enter (c := _) Tryd.func32 rfl [] _ [.rd A 1 n c (salt.map b8), .rd B 1 nt d (key.map b8)] (by rw [Tryd.ntmps32]; rfl) (own_rds hO rfl) ?_
 rw [Tryd.ntmps32]
 refine T_re [(0, (.slice A n c)), (1, (.slice B nt d))] (sc rfl (sc rfl sn)) ?_
 refine T_he [0, 1] [.rd A 1 n c (salt.map b8), .rd B 1 nt d (key.map b8)] ⟨by decide, rfl⟩ ?_
 refine Tsr hF rfl ?_
 refine L_op rfl (op_alloc (z := .agg ((List.replicate 32 0#8).map b8).toArray) (zs := ((List.replicate 32 0#8).map b8)) kr rfl rfl rfl rfl (fun g1 => ?_))
 refine L_nil ?_
 refine Tsr hF rfl ?_
 refine lm rfl rfl rfl rfl rfl ?_
 refine lm rfl rfl rfl rfl rfl ?_
 refine L_op rfl (op_cn (fun w hw => rtag_f salt A n c key B nt d w (hok_cons ((src_rd 1 rfl) w hw) (hok_cons ((src_rd 2 rfl) w hw) (hok_nil w))) (by first | assumption | omega | (simp; done) | (simp; omega)) sd (by first | assumption | omega | (simp; done) | (simp; omega)) sd) (enters_of Tryd.func41 kr rfl) rfl rfl rfl rfl rfl (fun t2 q3 => ?_))
 refine L_op rfl (op_sto (n := 32) (vs := ((mactag salt key).map b8)) 0 rfl rfl kr (all8_one _) kr sd rfl rfl rfl rfl ?_)
 refine L_nil ?_
 refine T_ret ?_
 exact T_fin () (by first | trivial | omega | (simp; done)) (resb 0 rfl rfl rfl Tryd.underlying34 rfl (fwz (n := 32) kr sd)) [] ⟨by decide, rfl⟩ rfl
set_option maxHeartbeats 4000000 in
theorem rexpand_f (key : List (BitVec 8)) (info : List (BitVec 8)) (A : Option Addr) (ni : Nat) (c : Nat) (n : Nat) (w : World) (hO : HOK [.rd A 1 ni c (info.map b8)] w) (hkl : key.length = 32) (hi : info.length = ni) (hni : ni ≤ 100000000) (h1 : 1 ≤ n) (h2 : n ≤ 8160) : Calls Tryd.prog 31 [(.agg (key.map b8).toArray), (.slice A ni c), (.int .i64 ((n : Nat) : Int))].toArray w (Ret (T := Option Addr × Nat) [] w (fun ⟨B, d⟩ => True) (fun ⟨B, d⟩ => (.tuple [(.slice B n d), (.int .i64 ((0 : Nat) : Int))].toArray)) (fun ⟨B, d⟩ => [.row (.slice B n d) 5 1 n ((hkdf key info n).map b8)])) := by
 have hF : Wid Fence.wide := wid_wide
 refine enter (c := _) Tryd.func31 rfl [] _ [.rd A 1 ni c (info.map b8)] (by rw [Tryd.ntmps31]; rfl) (own_rds hO rfl) ?_
 rw [Tryd.ntmps31]
 refine T_re [(0, (.agg (key.map b8).toArray)), (1, (.slice A ni c)), (2, (.int .i64 ((n : Nat) : Int)))] (sc rfl (sc rfl (sc rfl sn))) ?_
 refine T_he [0] [.rd A 1 ni c (info.map b8)] ⟨by decide, rfl⟩ ?_
 refine Tsr hF rfl ?_
 refine L_op rfl (op_box (zs := (key.map b8)) rfl rfl rfl rfl rfl (fun g1 => ?_))
 refine la rfl rfl rfl rfl rfl ?_
 refine la rfl rfl rfl rfl rfl ?_
 refine L_nil ?_
 refine T_seq ?_
 refine Tsr hF rfl ?_
 refine lm rfl rfl rfl rfl rfl ?_
 refine lo rfl (pr_cmp (bo := .lss) (nc_lt (a := n) (b := 1)) rfl rfl rfl rfl) rfl rfl ?_
 refine lm rfl rfl rfl rfl rfl ?_
 refine T_slot 15 (.bool (decide (n < 1))) (.bool false) rfl (congrArg _ (by simp; omega)) ?_
 refine lm rfl rfl rfl rfl rfl ?_
 refine lo rfl (pr_cmp (bo := .gtr) (nc_lt (a := 8160) (b := n)) rfl rfl rfl rfl) rfl rfl ?_
 refine lo rfl (pr_pick_f rfl rfl rfl) rfl rfl ?_
 refine L_nil ?_
 refine T_cond_no (t := decide (8160 < n)) rfl (by simp; omega) ?_
 refine T_skip ?_
 refine Tsr hF rfl ?_
 refine la rfl rfl rfl rfl rfl ?_
 refine la rfl rfl rfl rfl rfl ?_
 refine L_nil ?_
 refine T_seq ?_
 refine Tsr hF rfl ?_
 refine la rfl rfl rfl rfl rfl ?_
 refine L_nil ?_
 refine T_block ?_
 refine T_nilrow 5 1 ?_
 refine T_as 0 _ (.row (.slice none 0 0) 5 1 0 ((hkpc key info 0).map b8)) rfl (by rw [hkpc_zero]; rfl) ?_
 refine T_nilrow 5 1 ?_
 refine T_as 0 _ (.row (.slice none 0 0) 5 1 0 ((hkout key info 0).map b8)) rfl (by rw [hkout_zero]; rfl) ?_
 refine T_slot 8 (.slice none 0 0) (.slice none (32 * 0) 0) rfl (by first | rfl | (congr 2; omega) | (simp; omega)) ?_
 refine T_slot 10 (.int .i64 ((1 : Nat) : Int)) (.int .i64 ((0 + 1 : Nat) : Int)) rfl (by first | rfl | (congr 2; omega) | (simp; omega)) ?_
 refine T_as 0 _ (.row (.slice none (32 * 0) 0) 5 1 (32 * 0) ((hkout key info 0).map b8)) rfl (by first | rfl | simp | (congr 1; simp)) ?_
 refine T_loop (T := Nat × Option Addr × Nat × Option Addr × Nat × Nat) (fun ⟨k, A1, c1, A2, ln, c2⟩ => 32 * k < n + 32 ∧ (hkpc key info k).length = ln) (fun ⟨k, A1, c1, A2, ln, c2⟩ => [(1, (.slice A ni c)), (2, (.int .i64 ((n : Nat) : Int))), (3, (.pointer (some ⟨g1, 0, none⟩))), (8, (.slice A1 (32 * k) c1)), (9, (.slice A2 ln c2)), (10, (.int .i64 ((k + 1 : Nat) : Int)))]) (fun ⟨k, A1, c1, A2, ln, c2⟩ => [.row (.slice A1 (32 * k) c1) 5 1 (32 * k) ((hkout key info k).map b8), .row (.slice A2 ln c2) 5 1 ln ((hkpc key info k).map b8), .blk g1 34 (key.map b8), .rd A 1 ni c (info.map b8)]) (fun ⟨k, A1, c1, A2, ln, c2⟩ => n + 32 - 32 * k) (0, none, 0, none, 0, 0) (by simp [hkpc_zero]) (sc rfl (sc rfl (sc rfl (sc rfl (sc rfl (sc rfl sn)))))) [0, 1, 2, 3] ⟨by decide, rfl⟩ ?_
 rintro ⟨k, A1, c1, A2, ln, c2⟩ hp
 have hp : 32 * k < n + 32 ∧ (hkpc key info k).length = ln := hp
 have hle := hkpc_le key info k
 have hpl := hkpc_len key info k
 have hol := hkout_len key info k
 refine T_re [(1, (.slice A ni c)), (2, (.int .i64 ((n : Nat) : Int))), (3, (.pointer (some ⟨g1, 0, none⟩))), (8, (.slice A1 (32 * k) c1)), (9, (.slice A2 ln c2)), (10, (.int .i64 ((k + 1 : Nat) : Int)))] (sc rfl (sc rfl (sc rfl (sc rfl (sc rfl (sc rfl sn)))))) ?_
 refine T_he [0, 1, 2, 3] [.row (.slice A1 (32 * k) c1) 5 1 (32 * k) ((hkout key info k).map b8), .row (.slice A2 ln c2) 5 1 ln ((hkpc key info k).map b8), .blk g1 34 (key.map b8), .rd A 1 ni c (info.map b8)] ⟨by decide, rfl⟩ ?_
 refine T_seq ?_
 refine Tsr hF rfl ?_
 refine lm rfl rfl rfl rfl rfl ?_
 refine lo rfl (pr_len_sl Tryd.underlying29 rfl rfl) rfl rfl ?_
 refine lm rfl rfl rfl rfl rfl ?_
 refine lo rfl (pr_cmp (bo := .lss) (nc_lt (a := 32 * k) (b := n)) rfl rfl rfl rfl) rfl rfl ?_
 refine L_nil ?_
 refine T_cond (decide (32 * k < n)) rfl (fun hc_3 => ?_) (fun hc_3 => ?_)
 ·
  have hc_3 := of_decide_eq_true hc_3
  refine T_skip ?_
  refine T_seq ?_
  refine T_block ?_
  refine Tsr hF rfl ?_
  refine lm rfl rfl rfl rfl rfl ?_
  refine T_nilrow 5 1 ?_
  refine L_op rfl (op_append (z := (b8 (0#8))) (size := 1) (bytes := 1) 0 rfl Tryd.underlying29 kr kr (by decide) (src_row 2 rfl) (all8_one _) sd sd rfl rfl rfl rfl rfl (fun A4 C5 => ?_))
  refine T_as 0 _ (.row (.slice A4 (0 + ln) C5) 5 1 (0 + ln) ((hkpc key info k).map b8)) rfl (by first | rfl | (congr 1; simp; done) | (simp only [List.map_append]; rfl) | (rw [List.map_append]; rfl)) ?_
  refine lm rfl rfl rfl rfl rfl ?_
  refine L_op rfl (op_append (z := (b8 (0#8))) (size := 1) (bytes := 1) 0 rfl Tryd.underlying29 kr kr (by decide) (src_rd 4 rfl) (all8_one _) sd sd rfl rfl rfl rfl rfl (fun A6 C7 => ?_))
  refine T_as 0 _ (.row (.slice A6 (0 + ln + ni) C7) 5 1 (0 + ln + ni) (((hkpc key info k) ++ info).map b8)) rfl (by first | rfl | (congr 1; simp; done) | (simp only [List.map_append]; rfl) | (rw [List.map_append]; rfl)) ?_
  refine lm rfl rfl rfl rfl rfl ?_
  refine lo rfl (pr_cv (nw8 (k + 1)) Tryd.underlying3 Tryd.underlying5 rfl rfl) rfl rfl ?_
  refine L_op rfl (op_bslice (e := 5) (zs := [(b8 (BitVec.ofNat 8 (k + 1)))]) (qs := [(0, (b8 (BitVec.ofNat 8 (k + 1))))]) (fun _ => by kernel_rfl) rfl rfl rfl rfl (fun g8 => ?_))
  refine L_op rfl (op_append (z := (b8 (0#8))) (size := 1) (bytes := 1) 1 rfl Tryd.underlying29 kr kr (by decide) (src_full (z := 1) 0 rfl rfl sd sd) (by simp [Value.oneCell']) sd sd rfl rfl rfl rfl rfl (fun A9 C10 => ?_))
  refine T_as 0 _ (.row (.slice A9 (0 + ln + ni + 1) C10) 5 1 (0 + ln + ni + 1) ((((hkpc key info k) ++ info) ++ [(BitVec.ofNat 8 (k + 1))]).map b8)) rfl (by first | rfl | (congr 1; simp; done) | (simp only [List.map_append]; rfl) | (rw [List.map_append]; rfl)) ?_
  refine la rfl rfl rfl rfl rfl ?_
  refine L_nil ?_
  refine Tsr hF rfl ?_
  refine lo rfl (pr_sla (l := 0) (u := 32) (m := 0) sd sd sd rfl Tryd.underlying34 (z := 1) kr rfl rfl rfl rfl) rfl rfl ?_
  refine lm rfl rfl rfl rfl rfl ?_
  refine L_op rfl (op_cn (fun w hw => rtag_f key (some ⟨g1, 0, none⟩) 32 32 (((hkpc key info k) ++ info) ++ [(BitVec.ofNat 8 (k + 1))]) A9 (0 + ln + ni + 1) C10 w (hok_cons ((src_full (z := 1) 4 rfl sd sd sd) w hw) (hok_cons ((src_row 0 rfl) w hw) (hok_nil w))) (by first | assumption | omega | (simp; done) | (simp; omega)) sd (by first | assumption | omega | (simp; done) | (simp; omega)) sd) (enters_of Tryd.func41 kr rfl) rfl rfl rfl rfl rfl (fun t11 q12 => ?_))
  refine T_slot 35 _ (.agg ((hkpc key info (k + 1)).map b8).toArray) rfl (by rw [hkpc_succ]) ?_
  refine L_op rfl (op_alloc (z := .agg ((List.replicate 32 0#8).map b8).toArray) (zs := ((List.replicate 32 0#8).map b8)) kr rfl rfl rfl rfl (fun g13 => ?_))
  refine L_op rfl (op_sto (n := 32) (vs := ((hkpc key info (k + 1)).map b8)) 0 rfl rfl kr (all8_one _) kr sd rfl rfl rfl rfl ?_)
  refine L_nil ?_
  refine Tsr hF rfl ?_
  refine lo rfl (pr_sla (l := 0) (u := 32) (m := 0) sd sd sd rfl Tryd.underlying34 (z := 1) kr rfl rfl rfl rfl) rfl rfl ?_
  refine T_nilrow 5 1 ?_
  refine L_op rfl (op_append (z := (b8 (0#8))) (size := 1) (bytes := 1) 0 rfl Tryd.underlying29 kr kr (by decide) (src_full (z := 1) 1 rfl sd sd sd) (all8_one _) sd sd rfl rfl rfl rfl rfl (fun A14 C15 => ?_))
  refine T_as 0 _ (.row (.slice A14 32 C15) 5 1 32 ((hkpc key info (k + 1)).map b8)) rfl (by first | rfl | (congr 1; simp; done) | (simp only [List.map_append]; rfl) | (rw [List.map_append]; rfl)) ?_
  refine T_slot 37 (.slice A14 (0 + 32) C15) (.slice A14 32 C15) rfl rfl ?_
  refine la rfl rfl rfl rfl rfl ?_
  refine L_nil ?_
  refine T_reg hF rfl ?_
  refine lm rfl rfl rfl rfl rfl ?_
  refine lm rfl rfl rfl rfl rfl ?_
  refine L_op rfl (op_append (z := (b8 (0#8))) (size := 1) (bytes := 1) 4 rfl Tryd.underlying29 kr kr (by decide) (src_row 0 rfl) (all8_one _) sd sd rfl rfl rfl rfl rfl (fun A16 C17 => ?_))
  refine T_as 0 _ (.row (.slice A16 (32 * k + 32) C17) 5 1 (32 * k + 32) (((hkout key info k) ++ (hkpc key info (k + 1))).map b8)) rfl (by first | rfl | (congr 1; simp; done) | (simp only [List.map_append]; rfl) | (rw [List.map_append]; rfl)) ?_
  refine la rfl rfl rfl rfl rfl ?_
  refine L_nil ?_
  refine T_reg hF rfl ?_
  refine lm rfl rfl rfl rfl rfl ?_
  refine lo rfl (pr_add (na_i64 (a := k + 1) (b := 1) sd) rfl rfl rfl) rfl rfl ?_
  refine la rfl rfl rfl rfl rfl ?_
  refine L_nil ?_
  refine T_slot 8 (.slice A16 (32 * k + 32) C17) (.slice A16 (32 * (k + 1)) C17) rfl (by congr 1) ?_
  refine T_slot 10 (.int .i64 ((k + 1 + 1 : Nat) : Int)) (.int .i64 (((k + 1) + 1 : Nat) : Int)) rfl (by congr 1) ?_
  refine T_as 0 _ (.row (.slice A16 (32 * (k + 1)) C17) 5 1 (32 * (k + 1)) ((hkout key info (k + 1)).map b8)) rfl (by rw [hkout_succ]; congr 1) ?_
  exact T_again (k + 1, A16, C17, A14, 32, C15) (by simp; omega) (by dsimp only; omega) (sc rfl (sc rfl (sc rfl (sc rfl (sc rfl (sc rfl sn)))))) [0, 1, 6, 7] ⟨by decide, rfl⟩
 ·
  have hc_3 := of_decide_eq_false hc_3
  refine T_exit rfl ?_
  refine Tsr hF rfl ?_
  refine lm rfl rfl rfl rfl rfl ?_
  refine lm rfl rfl rfl rfl rfl ?_
  refine L_op rfl (op_reslice (u := n) 0 rfl sd Tryd.underlying29 kr rfl rfl rfl rfl rfl ?_)
  refine T_as 0 _ (.row (.slice A1 n c1) 5 1 n ((List.take n (hkout key info k)).map b8)) rfl (by first | rfl | (congr 1; simp [List.map_take])) ?_
  refine la rfl rfl rfl rfl rfl ?_
  refine la rfl rfl rfl rfl rfl ?_
  refine L_nil ?_
  refine T_ret ?_
  refine T_as 0 _ (.row (.slice A1 n c1) 5 1 n ((hkdf key info n).map b8)) rfl (by rw [hkdf_of key info n k (by omega) (by omega)]) ?_
  exact T_fin (A1, c1) (by first | trivial | omega | (simp; done)) (res2 rfl rfl rfl) [0] ⟨by decide, rfl⟩ rfl
set_option maxHeartbeats 4000000 in
theorem expand_f (key : List (BitVec 8)) (info : List (BitVec 8)) (A : Option Addr) (ni : Nat) (c : Nat) (n : Nat) (w : World) (hO : HOK [.rd A 1 ni c (info.map b8)] w) (hkl : key.length = 32) (hi : info.length = ni) (hni : ni ≤ 100000000) (h1 : 1 ≤ n) (h2 : n ≤ 8160) : Calls Tryd.prog 42 [(.agg (key.map b8).toArray), (.slice A ni c), (.int .i64 ((n : Nat) : Int))].toArray w (Ret (T := Option Addr) [] w (fun B => True) (fun B => (.tuple [(.slice B n n), (.int .i64 ((0 : Nat) : Int))].toArray)) (fun B => [.old B 1 n n ((hkdf key info n).map b8)])) := by
 have hF : Wid Fence.wide := wid_wide
 refine enter_m (c := _) Tryd.func42 rfl [] _ [.rd A 1 ni c (info.map b8)] (by rw [Tryd.ntmps42]; rfl) (own_rds hO rfl) ?_
 rw [Tryd.ntmps42]
 refine T_re [(0, (.agg (key.map b8).toArray)), (1, (.slice A ni c)), (2, (.int .i64 ((n : Nat) : Int)))] (sc rfl (sc rfl (sc rfl sn))) ?_
 refine T_he [0] [.rd A 1 ni c (info.map b8)] ⟨by decide, rfl⟩ ?_
 refine Tsr hF rfl ?_
 refine L_op rfl (op_box (zs := (key.map b8)) rfl rfl rfl rfl rfl (fun g1 => ?_))
 refine L_op rfl (op_box (zs := [(.int .i64 ((n : Nat) : Int))]) rfl rfl rfl rfl rfl (fun g2 => ?_))
 refine la rfl rfl rfl rfl rfl ?_
 refine la rfl rfl rfl rfl rfl ?_
 refine L_nil ?_
 refine T_seq ?_
 refine Tsr hF rfl ?_
 refine lq rfl (ld_blk 0 rfl rfl Tryd.underlying3 rfl rfl rfl) rfl rfl ?_
 refine lo rfl (pr_cmp (bo := .lss) (nc_lt (a := n) (b := 1)) rfl rfl rfl rfl) rfl rfl ?_
 refine lm rfl rfl rfl rfl rfl ?_
 refine T_slot 12 (.bool (decide (n < 1))) (.bool false) rfl (congrArg _ (by simp; omega)) ?_
 refine lq rfl (ld_blk 0 rfl rfl Tryd.underlying3 rfl rfl rfl) rfl rfl ?_
 refine lo rfl (pr_cmp (bo := .gtr) (nc_lt (a := 8160) (b := n)) rfl rfl rfl rfl) rfl rfl ?_
 refine lo rfl (pr_pick_f rfl rfl rfl) rfl rfl ?_
 refine L_nil ?_
 refine T_cond_no (t := decide (8160 < n)) rfl (by simp; omega) ?_
 refine T_skip ?_
 refine Tsr hF rfl ?_
 refine L_op rfl (op_alloc (z := (.slice none 0 0)) (zs := [(.slice none 0 0)]) kr rfl rfl rfl rfl (fun g4 => ?_))
 refine L_nil ?_
 refine T_seq ?_
 refine Tsr hF rfl ?_
 refine lq rfl (ld_agg (ds := (key.map b8)) 2 rfl agg_all Tryd.underlying34 rfl (fwz (n := 32) kr sd) rfl rfl) rfl rfl ?_
 refine lm rfl rfl rfl rfl rfl ?_
 refine L_op rfl (op_cn (fun w hw => pieces_f key A ni c w (hok_nil w) sd) (enters_of Tryd.func51 kr rfl) rfl rfl rfl rfl rfl (fun t5 q6 => ?_))
 obtain ⟨g1_7, g2_8⟩ := t5
 refine L_nil ?_
 refine T_block ?_
 refine T_tord 0 rfl ?_
 refine T_tord 1 rfl ?_
 refine T_nilrow 5 1 ?_
 refine T_as 0 _ (.row (.slice none 0 0) 5 1 0 ((hkout key info 0).map b8)) rfl (by rw [hkout_zero]; rfl) ?_
 refine T_as 0 _ (.row (.slice none (32 * 0) 0) 5 1 (32 * 0) ((hkout key info 0).map b8)) rfl (by first | rfl | simp | (congr 1; simp)) ?_
 refine T_as 3 _ (.blk g4 29 [(.slice none (32 * 0) 0)]) rfl (by first | rfl | simp | (congr 1; simp)) ?_
 refine T_range (Θ := Option Addr) (T := Option Addr × Nat) (Tx := Nat × Option Addr × Nat) (cap := [(.pointer (some ⟨g1_7, 0, none⟩)), (.pointer (some ⟨g2_8, 0, none⟩))]) (ps := [19]) (pieces_seq key info A ni c g1_7 g2_8 sd sd sd) rfl (enters_of Tryd.func61 kr rfl) (fun k ⟨A1, c1⟩ => 32 * k < n) (fun k ⟨A1, c1⟩ => [.row (.slice A1 (32 * k) c1) 5 1 (32 * k) ((hkout key info k).map b8), .rd (some ⟨g2_8, 0, none⟩) 1 1 1 [(.slice A ni c)], .rd (some ⟨g1_7, 0, none⟩) 1 32 32 (key.map b8), .blk g4 29 [(.slice A1 (32 * k) c1)], .blk g2 3 [(.int .i64 ((n : Nat) : Int))], .blk g1 34 (key.map b8), .rd A 1 ni c (info.map b8)]) (fun ⟨kb, A1, c1⟩ => n ≤ 32 * kb ∧ kb ≤ 255) (fun ⟨kb, A1, c1⟩ => [.row (.slice A1 (32 * kb) c1) 5 1 (32 * kb) ((hkout key info kb).map b8), .rd (some ⟨g2_8, 0, none⟩) 1 1 1 [(.slice A ni c)], .rd (some ⟨g1_7, 0, none⟩) 1 32 32 (key.map b8), .blk g4 29 [(.slice A1 (32 * kb) c1)], .blk g2 3 [(.int .i64 ((n : Nat) : Int))], .blk g1 34 (key.map b8), .rd A 1 ni c (info.map b8)]) 0 (none, 0) (by omega) [1, 2, 3, 0, 4, 5, 6] ⟨by decide, rfl⟩ [3, 2, 6] rfl rfl (fun _ _ => rfl) (fun _ => rfl) (fun _ _ => rfl) (fun _ _ => rfl) rfl (fun _ => trivial) ?_ ?_ ?_
 ·
  intro C2 w2 lo2 rs2 l D m k t th rc hrec hk hp
  obtain ⟨A1, c1⟩ := t
  obtain ⟨B, rfl⟩ : ∃ x, x = th := ⟨_, rfl⟩
  have hp : 32 * k < n := hp
  have hk : k < 255 := hk
  have hol := hkout_len key info k
  have hpl := hkpc_len key info k
  have hF : Wid (Fence.wide.inRound l) := wid_round l
  refine T_re [(5, (.pointer (some ⟨g2, 0, none⟩))), (8, (.pointer (some ⟨g4, 0, none⟩))), (19, (.slice B 32 32))] (sc rfl (sc rfl (sc rfl sn))) ?_
  refine T_he [0, 1, 2, 3, 4, 5, 6, 7, 8, 9] [.rd B 1 32 32 ((hkpc key info (k + 1)).map b8), .obj l (.loop rc), .obj D (.deferred (some [])), .row (.slice A1 (32 * k) c1) 5 1 (32 * k) ((hkout key info k).map b8), .rd (some ⟨g2_8, 0, none⟩) 1 1 1 [(.slice A ni c)], .rd (some ⟨g1_7, 0, none⟩) 1 32 32 (key.map b8), .blk g4 29 [(.slice A1 (32 * k) c1)], .blk g2 3 [(.int .i64 ((n : Nat) : Int))], .blk g1 34 (key.map b8), .rd A 1 ni c (info.map b8)] ⟨by decide, rfl⟩ ?_
  refine T_reg hF rfl ?_
  refine la rfl rfl rfl rfl rfl ?_
  refine L_nil ?_
  refine T_begun 1 rfl hrec ?_
  refine T_block ?_
  refine Tsr hF rfl ?_
  refine lq rfl (ld_blk 6 rfl rfl Tryd.underlying29 rfl rfl rfl) rfl rfl ?_
  refine lm rfl rfl rfl rfl rfl ?_
  refine L_op rfl (op_append (z := (b8 (0#8))) (size := 1) (bytes := 1) 3 rfl Tryd.underlying29 kr kr (by decide) (src_rd 1 rfl) (all8_one _) sd sd rfl rfl rfl rfl rfl (fun A9 C10 => ?_))
  refine T_as 0 _ (.row (.slice A9 (32 * k + 32) C10) 5 1 (32 * k + 32) (((hkout key info k) ++ (hkpc key info (k + 1))).map b8)) rfl (by first | rfl | (congr 1; simp; done) | (simp only [List.map_append]; rfl) | (rw [List.map_append]; rfl)) ?_
  refine L_op rfl (op_store (vs := [(.slice A9 (32 * k + 32) C10)]) (cs' := [(.slice A9 (32 * k + 32) C10)]) 6 rfl rfl kr (one_one rfl) (by first | decide | simp | exact Nat.le_refl _) rfl rfl rfl rfl rfl ?_)
  refine L_nil ?_
  refine Tsr hF rfl ?_
  refine lq rfl (ld_blk 0 rfl rfl Tryd.underlying29 rfl rfl rfl) rfl rfl ?_
  refine lo rfl (pr_len_sl Tryd.underlying29 rfl rfl) rfl rfl ?_
  refine lq rfl (ld_blk 7 rfl rfl Tryd.underlying3 rfl rfl rfl) rfl rfl ?_
  refine lo rfl (pr_cmp (bo := .geq) (nc_le (a := n) (b := 32 * k + 32)) rfl rfl rfl rfl) rfl rfl ?_
  refine L_nil ?_
  refine T_cond (decide (n ≤ 32 * k + 32)) rfl (fun hc_11 => ?_) (fun hc_11 => ?_)
  ·
   have hc_11 := of_decide_eq_true hc_11
   refine T_exit rfl ?_
   refine T_as 1 _ (.row (.slice A9 (32 * (k + 1)) C10) 5 1 (32 * (k + 1)) ((hkout key info (k + 1)).map b8)) rfl (by rw [hkout_succ]; congr 1) ?_
   refine T_as 1 _ (.blk g4 29 [(.slice A9 (32 * (k + 1)) C10)]) rfl (by congr 1) ?_
   exact T_on (k + 1, A9, C10) (by dsimp only; omega) [2, 4, 1, 5, 6, 0, 7, 8, 9] ⟨by decide, rfl⟩
  ·
   have hc_11 := of_decide_eq_false hc_11
   refine T_skip ?_
   refine T_as 1 _ (.row (.slice A9 (32 * (k + 1)) C10) 5 1 (32 * (k + 1)) ((hkout key info (k + 1)).map b8)) rfl (by rw [hkout_succ]; congr 1) ?_
   refine T_as 1 _ (.blk g4 29 [(.slice A9 (32 * (k + 1)) C10)]) rfl (by congr 1) ?_
   exact T_on (A9, C10) (by omega) [2, 4, 1, 5, 6, 0, 7, 8, 9] ⟨by decide, rfl⟩
 ·
  intro D t hp
  obtain ⟨A1, c1⟩ := t
  have hp : 32 * 255 < n := hp
  refine T_re [(5, (.pointer (some ⟨g2, 0, none⟩))), (8, (.pointer (some ⟨g4, 0, none⟩)))] (sc rfl (sc rfl sn)) ?_
  refine T_he [0, 1, 2, 3, 4, 5, 6, 7] [.obj D (.deferred (some [])), .row (.slice A1 (32 * 255) c1) 5 1 (32 * 255) ((hkout key info 255).map b8), .rd (some ⟨g2_8, 0, none⟩) 1 1 1 [(.slice A ni c)], .rd (some ⟨g1_7, 0, none⟩) 1 32 32 (key.map b8), .blk g4 29 [(.slice A1 (32 * 255) c1)], .blk g2 3 [(.int .i64 ((n : Nat) : Int))], .blk g1 34 (key.map b8), .rd A 1 ni c (info.map b8)] ⟨by decide, rfl⟩ ?_
  exfalso; omega
 ·
  intro D t hq
  obtain ⟨kb, A1, c1⟩ := t
  have hq : n ≤ 32 * kb ∧ kb ≤ 255 := hq
  refine T_exit rfl ?_
  refine T_re [(5, (.pointer (some ⟨g2, 0, none⟩))), (8, (.pointer (some ⟨g4, 0, none⟩)))] (sc rfl (sc rfl sn)) ?_
  refine T_he [0, 1, 2, 3, 4, 5, 6, 7] [.obj D (.deferred (some [])), .row (.slice A1 (32 * kb) c1) 5 1 (32 * kb) ((hkout key info kb).map b8), .rd (some ⟨g2_8, 0, none⟩) 1 1 1 [(.slice A ni c)], .rd (some ⟨g1_7, 0, none⟩) 1 32 32 (key.map b8), .blk g4 29 [(.slice A1 (32 * kb) c1)], .blk g2 3 [(.int .i64 ((n : Nat) : Int))], .blk g1 34 (key.map b8), .rd A 1 ni c (info.map b8)] ⟨by decide, rfl⟩ ?_
  refine Tsr hF rfl ?_
  refine lq rfl (ld_blk 4 rfl rfl Tryd.underlying29 rfl rfl rfl) rfl rfl ?_
  refine lq rfl (ld_blk 5 rfl rfl Tryd.underlying3 rfl rfl rfl) rfl rfl ?_
  refine lq rfl (ld_blk 5 rfl rfl Tryd.underlying3 rfl rfl rfl) rfl rfl ?_
  refine T_old 1 rfl ?_
  refine T_know (p := 32 * kb ≤ c1) (fun w hw => (hw (.old A1 1 (32 * kb) c1 ((hkout key info kb).map b8)) (List.mem_of_getElem? (i := 0) rfl)).1.le) (fun hcap_12 => ?_)
  refine L_op rfl (op_pr (pr_slup3 (u := n) sd Tryd.underlying29 (z := 1) kr rfl rfl rfl rfl) rfl rfl ?_)
  refine T_prec 0 n n (((List.take n (hkout key info kb)).map b8)) rfl sd (Nat.le_refl _) sd sd (by rw [Nat.mul_one, List.map_take]) ?_
  refine la rfl rfl rfl rfl rfl ?_
  refine la rfl rfl rfl rfl rfl ?_
  refine L_nil ?_
  refine T_ret ?_
  refine T_as 0 _ (.old A1 1 n n ((hkdf key info n).map b8)) rfl (by rw [hkdf_of key info n kb (by omega) (by omega)]) ?_
  exact T_finM 2 rfl A1 (by first | trivial | omega | (simp; done)) (res2 rfl rfl rfl) [0] ⟨by decide, rfl⟩ rfl
set_option maxHeartbeats 4000000 in
theorem expand_lo_f (key : List (BitVec 8)) (info : List (BitVec 8)) (A : Option Addr) (ni : Nat) (c : Nat) (z : Int) (w : World) (hO : HOK [.rd A 1 ni c (info.map b8)] w) (hkl : key.length = 32) (hi : info.length = ni) (hni : ni ≤ 100000000) (hz : z < 1) : Calls Tryd.prog 42 [(.agg (key.map b8).toArray), (.slice A ni c), (.int .i64 z)].toArray w (Ret (T := Unit) [] w (fun _ => True) (fun _ => (.tuple [(.slice none 0 0), (.int .i64 ((1 : Nat) : Int))].toArray)) (fun _ => [])) := by
 have hF : Wid Fence.wide := wid_wide
 refine enter_m (c := _) Tryd.func42 rfl [] _ [.rd A 1 ni c (info.map b8)] (by rw [Tryd.ntmps42]; rfl) (own_rds hO rfl) ?_
 rw [Tryd.ntmps42]
 refine T_re [(0, (.agg (key.map b8).toArray)), (1, (.slice A ni c)), (2, (.int .i64 z))] (sc rfl (sc rfl (sc rfl sn))) ?_
 refine T_he [0] [.rd A 1 ni c (info.map b8)] ⟨by decide, rfl⟩ ?_
 refine Tsr hF rfl ?_
 refine L_op rfl (op_box (zs := (key.map b8)) rfl rfl rfl rfl rfl (fun g1 => ?_))
 refine L_op rfl (op_box (zs := [(.int .i64 z)]) rfl rfl rfl rfl rfl (fun g2 => ?_))
 refine la rfl rfl rfl rfl rfl ?_
 refine la rfl rfl rfl rfl rfl ?_
 refine L_nil ?_
 refine T_seq ?_
 refine Tsr hF rfl ?_
 refine lq rfl (ld_blk 0 rfl rfl Tryd.underlying3 rfl rfl rfl) rfl rfl ?_
 refine lo rfl (pr_cmp (bo := .lss) (k := .i64) (a := z) (b := ((1 : Nat) : Int)) (c := decide (z < ((1 : Nat) : Int))) rfl rfl rfl rfl rfl) rfl rfl ?_
 refine lm rfl rfl rfl rfl rfl ?_
 refine T_slot 12 (.bool (decide (z < ((1 : Nat) : Int)))) (.bool true) rfl (congrArg _ (by simp; omega)) ?_
 refine L_skip rfl rfl rfl ?_
 refine L_skip rfl rfl rfl ?_
 refine lo rfl (pr_pick_t rfl rfl rfl) rfl rfl ?_
 refine L_nil ?_
 refine T_cond_t rfl ?_
 refine Tsr hF rfl ?_
 refine la rfl rfl rfl rfl rfl ?_
 refine la rfl rfl rfl rfl rfl ?_
 refine L_nil ?_
 refine T_ret ?_
 exact T_finM0 () (by first | trivial | omega | (simp; done)) (res2 rfl rfl rfl) [] ⟨by decide, rfl⟩ rfl
set_option maxHeartbeats 4000000 in
theorem expand_hi_f (key : List (BitVec 8)) (info : List (BitVec 8)) (A : Option Addr) (ni : Nat) (c : Nat) (z : Int) (w : World) (hO : HOK [.rd A 1 ni c (info.map b8)] w) (hkl : key.length = 32) (hi : info.length = ni) (hni : ni ≤ 100000000) (hz : 8160 < z) : Calls Tryd.prog 42 [(.agg (key.map b8).toArray), (.slice A ni c), (.int .i64 z)].toArray w (Ret (T := Unit) [] w (fun _ => True) (fun _ => (.tuple [(.slice none 0 0), (.int .i64 ((1 : Nat) : Int))].toArray)) (fun _ => [])) := by
 have hF : Wid Fence.wide := wid_wide
 refine enter_m (c := _) Tryd.func42 rfl [] _ [.rd A 1 ni c (info.map b8)] (by rw [Tryd.ntmps42]; rfl) (own_rds hO rfl) ?_
 rw [Tryd.ntmps42]
 refine T_re [(0, (.agg (key.map b8).toArray)), (1, (.slice A ni c)), (2, (.int .i64 z))] (sc rfl (sc rfl (sc rfl sn))) ?_
 refine T_he [0] [.rd A 1 ni c (info.map b8)] ⟨by decide, rfl⟩ ?_
 refine Tsr hF rfl ?_
 refine L_op rfl (op_box (zs := (key.map b8)) rfl rfl rfl rfl rfl (fun g1 => ?_))
 refine L_op rfl (op_box (zs := [(.int .i64 z)]) rfl rfl rfl rfl rfl (fun g2 => ?_))
 refine la rfl rfl rfl rfl rfl ?_
 refine la rfl rfl rfl rfl rfl ?_
 refine L_nil ?_
 refine T_seq ?_
 refine Tsr hF rfl ?_
 refine lq rfl (ld_blk 0 rfl rfl Tryd.underlying3 rfl rfl rfl) rfl rfl ?_
 refine lo rfl (pr_cmp (bo := .lss) (k := .i64) (a := z) (b := ((1 : Nat) : Int)) (c := decide (z < ((1 : Nat) : Int))) rfl rfl rfl rfl rfl) rfl rfl ?_
 refine lm rfl rfl rfl rfl rfl ?_
 refine T_slot 12 (.bool (decide (z < ((1 : Nat) : Int)))) (.bool false) rfl (congrArg _ (by simp; omega)) ?_
 refine lq rfl (ld_blk 0 rfl rfl Tryd.underlying3 rfl rfl rfl) rfl rfl ?_
 refine lo rfl (pr_cmp (bo := .gtr) (k := .i64) (a := z) (b := ((8160 : Nat) : Int)) (c := decide (((8160 : Nat) : Int) < z)) rfl rfl rfl rfl rfl) rfl rfl ?_
 refine lo rfl (pr_pick_f rfl rfl rfl) rfl rfl ?_
 refine L_nil ?_
 refine T_cond_yes (t := decide (((8160 : Nat) : Int) < z)) rfl (by simp; omega) ?_
 refine Tsr hF rfl ?_
 refine la rfl rfl rfl rfl rfl ?_
 refine la rfl rfl rfl rfl rfl ?_
 refine L_nil ?_
 refine T_ret ?_
 exact T_finM0 () (by first | trivial | omega | (simp; done)) (res2 rfl rfl rfl) [] ⟨by decide, rfl⟩ rfl
set_option maxHeartbeats 4000000 in
theorem rexpand_lo_f (key : List (BitVec 8)) (info : List (BitVec 8)) (A : Option Addr) (ni : Nat) (c : Nat) (z : Int) (w : World) (hO : HOK [.rd A 1 ni c (info.map b8)] w) (hkl : key.length = 32) (hi : info.length = ni) (hni : ni ≤ 100000000) (hz : z < 1) : Calls Tryd.prog 31 [(.agg (key.map b8).toArray), (.slice A ni c), (.int .i64 z)].toArray w (Ret (T := Unit) [] w (fun _ => True) (fun _ => (.tuple [(.slice none 0 0), (.int .i64 ((1 : Nat) : Int))].toArray)) (fun _ => [])) := by
 have hF : Wid Fence.wide := wid_wide
 refine enter (c := _) Tryd.func31 rfl [] _ [.rd A 1 ni c (info.map b8)] (by rw [Tryd.ntmps31]; rfl) (own_rds hO rfl) ?_
 rw [Tryd.ntmps31]
 refine T_re [(0, (.agg (key.map b8).toArray)), (1, (.slice A ni c)), (2, (.int .i64 z))] (sc rfl (sc rfl (sc rfl sn))) ?_
 refine T_he [0] [.rd A 1 ni c (info.map b8)] ⟨by decide, rfl⟩ ?_
 refine Tsr hF rfl ?_
 refine L_op rfl (op_box (zs := (key.map b8)) rfl rfl rfl rfl rfl (fun g1 => ?_))
 refine la rfl rfl rfl rfl rfl ?_
 refine la rfl rfl rfl rfl rfl ?_
 refine L_nil ?_
 refine T_seq ?_
 refine Tsr hF rfl ?_
 refine lm rfl rfl rfl rfl rfl ?_
 refine lo rfl (pr_cmp (bo := .lss) (k := .i64) (a := z) (b := ((1 : Nat) : Int)) (c := decide (z < ((1 : Nat) : Int))) rfl rfl rfl rfl rfl) rfl rfl ?_
 refine lm rfl rfl rfl rfl rfl ?_
 refine T_slot 15 (.bool (decide (z < ((1 : Nat) : Int)))) (.bool true) rfl (congrArg _ (by simp; omega)) ?_
 refine L_skip rfl rfl rfl ?_
 refine L_skip rfl rfl rfl ?_
 refine lo rfl (pr_pick_t rfl rfl rfl) rfl rfl ?_
 refine L_nil ?_
 refine T_cond_t rfl ?_
 refine Tsr hF rfl ?_
 refine la rfl rfl rfl rfl rfl ?_
 refine la rfl rfl rfl rfl rfl ?_
 refine L_nil ?_
 refine T_ret ?_
 exact T_fin () (by first | trivial | omega | (simp; done)) (res2 rfl rfl rfl) [] ⟨by decide, rfl⟩ rfl
set_option maxHeartbeats 4000000 in
theorem rexpand_hi_f (key : List (BitVec 8)) (info : List (BitVec 8)) (A : Option Addr) (ni : Nat) (c : Nat) (z : Int) (w : World) (hO : HOK [.rd A 1 ni c (info.map b8)] w) (hkl : key.length = 32) (hi : info.length = ni) (hni : ni ≤ 100000000) (hz : 8160 < z) : Calls Tryd.prog 31 [(.agg (key.map b8).toArray), (.slice A ni c), (.int .i64 z)].toArray w (Ret (T := Unit) [] w (fun _ => True) (fun _ => (.tuple [(.slice none 0 0), (.int .i64 ((1 : Nat) : Int))].toArray)) (fun _ => [])) := by
 have hF : Wid Fence.wide := wid_wide
 refine enter (c := _) Tryd.func31 rfl [] _ [.rd A 1 ni c (info.map b8)] (by rw [Tryd.ntmps31]; rfl) (own_rds hO rfl) ?_
 rw [Tryd.ntmps31]
 refine T_re [(0, (.agg (key.map b8).toArray)), (1, (.slice A ni c)), (2, (.int .i64 z))] (sc rfl (sc rfl (sc rfl sn))) ?_
 refine T_he [0] [.rd A 1 ni c (info.map b8)] ⟨by decide, rfl⟩ ?_
 refine Tsr hF rfl ?_
 refine L_op rfl (op_box (zs := (key.map b8)) rfl rfl rfl rfl rfl (fun g1 => ?_))
 refine la rfl rfl rfl rfl rfl ?_
 refine la rfl rfl rfl rfl rfl ?_
 refine L_nil ?_
 refine T_seq ?_
 refine Tsr hF rfl ?_
 refine lm rfl rfl rfl rfl rfl ?_
 refine lo rfl (pr_cmp (bo := .lss) (k := .i64) (a := z) (b := ((1 : Nat) : Int)) (c := decide (z < ((1 : Nat) : Int))) rfl rfl rfl rfl rfl) rfl rfl ?_
 refine lm rfl rfl rfl rfl rfl ?_
 refine T_slot 15 (.bool (decide (z < ((1 : Nat) : Int)))) (.bool false) rfl (congrArg _ (by simp; omega)) ?_
 refine lm rfl rfl rfl rfl rfl ?_
 refine lo rfl (pr_cmp (bo := .gtr) (k := .i64) (a := z) (b := ((8160 : Nat) : Int)) (c := decide (((8160 : Nat) : Int) < z)) rfl rfl rfl rfl rfl) rfl rfl ?_
 refine lo rfl (pr_pick_f rfl rfl rfl) rfl rfl ?_
 refine L_nil ?_
 refine T_cond_yes (t := decide (((8160 : Nat) : Int) < z)) rfl (by simp; omega) ?_
 refine Tsr hF rfl ?_
 refine la rfl rfl rfl rfl rfl ?_
 refine la rfl rfl rfl rfl rfl ?_
 refine L_nil ?_
 refine T_ret ?_
 exact T_fin () (by first | trivial | omega | (simp; done)) (res2 rfl rfl rfl) [] ⟨by decide, rfl⟩ rfl
set_option maxHeartbeats 4000000 in
theorem key_f (salt : List (BitVec 8)) (A : Option Addr) (n : Nat) (c : Nat) (key : List (BitVec 8)) (B : Option Addr) (nt : Nat) (d : Nat) (info : List (BitVec 8)) (E : Option Addr) (ni : Nat) (ce : Nat) (w : World) (hO : HOK [.rd A 1 n c (salt.map b8), .rd B 1 nt d (key.map b8), .rd E 1 ni ce (info.map b8)] w) (hx : salt.length = n) (hn : n ≤ 900000000) (ht : key.length = nt) (hnt : nt ≤ 900000000) (hi : info.length = ni) (hni : ni ≤ 100000000) : Calls Tryd.prog 33 [(.slice A n c), (.slice B nt d), (.slice E ni ce)].toArray w (Ret (T := Unit) [] w (fun _ => True) (fun _ => (.agg ((hkdf (mactag salt key) info 32).map b8).toArray)) (fun _ => [])) := by
 have hml := mactag_len salt key
 have hkl2 := hkdf_len (mactag salt key) info 32 (by omega)
 have hF : Wid Fence.wide := wid_wide
 refine enter (c := _) Tryd.func33 rfl [] _ [.rd A 1 n c (salt.map b8), .rd B 1 nt d (key.map b8), .rd E 1 ni ce (info.map b8)] (by rw [Tryd.ntmps33]; rfl) (own_rds hO rfl) ?_
 rw [Tryd.ntmps33]
 refine T_re [(0, (.slice A n c)), (1, (.slice B nt d)), (2, (.slice E ni ce))] (sc rfl (sc rfl (sc rfl sn))) ?_
 refine T_he [0, 1, 2] [.rd A 1 n c (salt.map b8), .rd B 1 nt d (key.map b8), .rd E 1 ni ce (info.map b8)] ⟨by decide, rfl⟩ ?_
 refine Tsr hF rfl ?_
 refine L_op rfl (op_alloc (z := .agg ((List.replicate 32 0#8).map b8).toArray) (zs := ((List.replicate 32 0#8).map b8)) kr rfl rfl rfl rfl (fun g1 => ?_))
 refine L_nil ?_
 refine Tsr hF rfl ?_
 refine lm rfl rfl rfl rfl rfl ?_
 refine lm rfl rfl rfl rfl rfl ?_
 refine L_op rfl (op_cn (fun w hw => extract_f salt A n c key B nt d w (hok_cons ((src_rd 1 rfl) w hw) (hok_cons ((src_rd 2 rfl) w hw) (hok_nil w))) (by first | assumption | omega | (simp; done) | (simp; omega)) sd (by first | assumption | omega | (simp; done) | (simp; omega)) sd) (enters_of Tryd.func43 kr rfl) rfl rfl rfl rfl rfl (fun t2 q3 => ?_))
 refine lm rfl rfl rfl rfl rfl ?_
 refine L_op rfl (op_cn (fun w hw => expand_f (mactag salt key) info E ni ce 32 w (hok_cons ((src_rd 3 rfl) w hw) (hok_nil w)) (by first | assumption | omega | (simp; done) | (simp; omega)) (by first | assumption | omega | (simp; done) | (simp; omega)) sd sd sd) (enters_of Tryd.func42 kr rfl) rfl rfl rfl rfl rfl (fun t4 q5 => ?_))
 obtain ⟨B6, eB6⟩ : ∃ x, x = t4 := ⟨_, rfl⟩
 subst eB6
 refine lm rfl rfl rfl rfl rfl ?_
 refine lo rfl (pr_ext (vs := [(.slice B6 32 32), (.int .i64 ((0 : Nat) : Int))]) rfl rfl rfl) rfl rfl ?_
 refine lo rfl (pr_ext (vs := [(.slice B6 32 32), (.int .i64 ((0 : Nat) : Int))]) rfl rfl rfl) rfl rfl ?_
 refine la rfl rfl rfl rfl rfl ?_
 refine la rfl rfl rfl rfl rfl ?_
 refine L_nil ?_
 refine Tsr hF rfl ?_
 refine lm rfl rfl rfl rfl rfl ?_
 refine lo rfl (pr_s2a sd Tryd.underlying34 rfl rfl) rfl rfl ?_
 refine lq rfl (ld_aggs (ds := ((hkdf (mactag salt key) info 32).map b8)) (src_old 0 rfl) (List.take_length) (by have h1 : (((hkdf (mactag salt key) info 32).map b8)).length = 32 := sd; omega) Tryd.underlying34 rfl (fwz (n := 32) kr sd) rfl rfl) rfl rfl ?_
 refine L_op rfl (op_sto (n := 32) (vs := ((hkdf (mactag salt key) info 32).map b8)) 1 rfl rfl kr (all8_one _) kr sd rfl rfl rfl rfl ?_)
 refine L_nil ?_
 refine T_ret ?_
 exact T_fin () (by first | trivial | omega | (simp; done)) (resb 0 rfl rfl rfl Tryd.underlying34 rfl (fwz (n := 32) kr sd)) [] ⟨by decide, rfl⟩ rfl
set_option maxHeartbeats 4000000 in
theorem rkey_f (salt : List (BitVec 8)) (A : Option Addr) (n : Nat) (c : Nat) (key : List (BitVec 8)) (B : Option Addr) (nt : Nat) (d : Nat) (info : List (BitVec 8)) (E : Option Addr) (ni : Nat) (ce : Nat) (w : World) (hO : HOK [.rd A 1 n c (salt.map b8), .rd B 1 nt d (key.map b8), .rd E 1 ni ce (info.map b8)] w) (hx : salt.length = n) (hn : n ≤ 900000000) (ht : key.length = nt) (hnt : nt ≤ 900000000) (hi : info.length = ni) (hni : ni ≤ 100000000) : Calls Tryd.prog 12 [(.slice A n c), (.slice B nt d), (.slice E ni ce)].toArray w (Ret (T := Unit) [] w (fun _ => True) (fun _ => (.agg ((hkdf (mactag salt key) info 32).map b8).toArray)) (fun _ => [])) := by
 have hml := mactag_len salt key
 have hkl2 := hkdf_len (mactag salt key) info 32 (by omega)
 have hF : Wid Fence.wide := wid_wide
 refine enter (c := _) Tryd.func12 rfl [] _ [.rd A 1 n c (salt.map b8), .rd B 1 nt d (key.map b8), .rd E 1 ni ce (info.map b8)] (by rw [Tryd.ntmps12]; rfl) (own_rds hO rfl) ?_
 rw [Tryd.ntmps12]
 refine T_re [(0, (.slice A n c)), (1, (.slice B nt d)), (2, (.slice E ni ce))] (sc rfl (sc rfl (sc rfl sn))) ?_
 refine T_he [0, 1, 2] [.rd A 1 n c (salt.map b8), .rd B 1 nt d (key.map b8), .rd E 1 ni ce (info.map b8)] ⟨by decide, rfl⟩ ?_
 refine Tsr hF rfl ?_
 refine L_op rfl (op_alloc (z := .agg ((List.replicate 32 0#8).map b8).toArray) (zs := ((List.replicate 32 0#8).map b8)) kr rfl rfl rfl rfl (fun g1 => ?_))
 refine L_nil ?_
 refine Tsr hF rfl ?_
 refine lm rfl rfl rfl rfl rfl ?_
 refine lm rfl rfl rfl rfl rfl ?_
 refine L_op rfl (op_cn (fun w hw => rextract_f salt A n c key B nt d w (hok_cons ((src_rd 1 rfl) w hw) (hok_cons ((src_rd 2 rfl) w hw) (hok_nil w))) (by first | assumption | omega | (simp; done) | (simp; omega)) sd (by first | assumption | omega | (simp; done) | (simp; omega)) sd) (enters_of Tryd.func32 kr rfl) rfl rfl rfl rfl rfl (fun t2 q3 => ?_))
 refine lm rfl rfl rfl rfl rfl ?_
 refine L_op rfl (op_cn (fun w hw => rexpand_f (mactag salt key) info E ni ce 32 w (hok_cons ((src_rd 3 rfl) w hw) (hok_nil w)) (by first | assumption | omega | (simp; done) | (simp; omega)) (by first | assumption | omega | (simp; done) | (simp; omega)) sd sd sd) (enters_of Tryd.func31 kr rfl) rfl rfl rfl rfl rfl (fun t4 q5 => ?_))
 obtain ⟨B6, d7⟩ := t4
 refine lm rfl rfl rfl rfl rfl ?_
 refine lo rfl (pr_ext (vs := [(.slice B6 32 d7), (.int .i64 ((0 : Nat) : Int))]) rfl rfl rfl) rfl rfl ?_
 refine lo rfl (pr_ext (vs := [(.slice B6 32 d7), (.int .i64 ((0 : Nat) : Int))]) rfl rfl rfl) rfl rfl ?_
 refine la rfl rfl rfl rfl rfl ?_
 refine la rfl rfl rfl rfl rfl ?_
 refine L_nil ?_
 refine Tsr hF rfl ?_
 refine L_op rfl (op_alloc (z := .agg ((List.replicate 32 0#8).map b8).toArray) (zs := ((List.replicate 32 0#8).map b8)) kr rfl rfl rfl rfl (fun g8 => ?_))
 refine L_nil ?_
 refine T_seq ?_
 refine Tsr hF rfl ?_
 refine la rfl rfl rfl rfl rfl ?_
 refine L_nil ?_
 refine T_block ?_
 refine T_as 0 _ (.blk g8 34 ((pre0 (hkdf (mactag salt key) info 32) 32 0).map b8)) rfl (by rw [← pre0_zero]) ?_
 refine T_loop (T := Nat) (fun j => j ≤ 32) (fun j => [(6, (.pointer (some ⟨g1, 0, none⟩))), (7, (.slice B6 32 d7)), (9, (.pointer (some ⟨g8, 0, none⟩))), (10, (.int .i64 ((j : Nat) : Int)))]) (fun j => [.blk g8 34 ((pre0 (hkdf (mactag salt key) info 32) 32 j).map b8), .row (.slice B6 32 d7) 5 1 32 ((hkdf (mactag salt key) info 32).map b8), .blk g1 34 ((List.replicate 32 0#8).map b8), .rd A 1 n c (salt.map b8), .rd B 1 nt d (key.map b8), .rd E 1 ni ce (info.map b8)]) (fun j => 32 - j) 0 (by first | trivial | ((try dsimp only); first | omega | (refine ⟨?_, ?_⟩ <;> omega) | (refine ⟨?_, ?_, ?_⟩ <;> omega) | (simp; done) | (simp; omega))) (sc rfl (sc rfl (sc rfl (sc rfl sn)))) [0, 1, 2, 3, 4, 5] ⟨by decide, rfl⟩ ?_
 rintro j hp
 have hp : j ≤ 32 := hp
 have hpj := pre0_len (hkdf (mactag salt key) info 32) 32 j hkl2 hp
 refine T_re [(6, (.pointer (some ⟨g1, 0, none⟩))), (7, (.slice B6 32 d7)), (9, (.pointer (some ⟨g8, 0, none⟩))), (10, (.int .i64 ((j : Nat) : Int)))] (sc rfl (sc rfl (sc rfl (sc rfl sn)))) ?_
 refine T_he [0, 1, 2, 3, 4, 5] [.blk g8 34 ((pre0 (hkdf (mactag salt key) info 32) 32 j).map b8), .row (.slice B6 32 d7) 5 1 32 ((hkdf (mactag salt key) info 32).map b8), .blk g1 34 ((List.replicate 32 0#8).map b8), .rd A 1 n c (salt.map b8), .rd B 1 nt d (key.map b8), .rd E 1 ni ce (info.map b8)] ⟨by decide, rfl⟩ ?_
 refine T_seq ?_
 refine Tsr hF rfl ?_
 refine lm rfl rfl rfl rfl rfl ?_
 refine lo rfl (pr_cmp (bo := .lss) (nc_lt (a := j) (b := 32)) rfl rfl rfl rfl) rfl rfl ?_
 refine L_nil ?_
 refine T_cond (decide (j < 32)) rfl (fun hc_9 => ?_) (fun hc_9 => ?_)
 ·
  have hc_9 := of_decide_eq_true hc_9
  refine T_skip ?_
  refine T_seq ?_
  refine T_block ?_
  refine T_reg hF rfl ?_
  refine lm rfl rfl rfl rfl rfl ?_
  refine lm rfl rfl rfl rfl rfl ?_
  refine lm rfl rfl rfl rfl rfl ?_
  refine lo rfl (pr_ixs1 (j := j) (src_none (src_row 1 rfl)) sd Tryd.underlying29 kr rfl rfl rfl) rfl rfl ?_
  refine lq rfl (ld_src (m := j) (src_row 1 rfl) (get8 sd) Tryd.underlying5 rfl rfl rfl) rfl rfl ?_
  refine lo rfl (pr_ixa (j := j) (m' := j) sd (by omega) Tryd.underlying34 (z := 1) kr rfl rfl rfl) rfl rfl ?_
  refine L_op rfl (op_store (vs := [(b8 (ath (hkdf (mactag salt key) info 32) j))]) (cs' := ((List.set (pre0 (hkdf (mactag salt key) info 32) 32 j) j (ath (hkdf (mactag salt key) info 32) j)).map b8)) 0 rfl rfl kr (one_one rfl) (stl sd) (splice_map (f := b8) sd) rfl rfl rfl rfl ?_)
  refine L_nil ?_
  refine T_reg hF rfl ?_
  refine lm rfl rfl rfl rfl rfl ?_
  refine lo rfl (pr_add (na_i64 (a := j) (b := 1) sd) rfl rfl rfl) rfl rfl ?_
  refine la rfl rfl rfl rfl rfl ?_
  refine L_nil ?_
  refine T_as 0 _ (.blk g8 34 ((pre0 (hkdf (mactag salt key) info 32) 32 (j + 1)).map b8)) rfl (by rw [pre0_set _ _ j hkl2 (by omega) _ rfl]) ?_
  exact T_again (j + 1) (by first | trivial | ((try dsimp only); first | omega | (refine ⟨?_, ?_⟩ <;> omega) | (refine ⟨?_, ?_, ?_⟩ <;> omega) | (simp; done) | (simp; omega))) (by first | trivial | ((try dsimp only); first | omega | (refine ⟨?_, ?_⟩ <;> omega) | (refine ⟨?_, ?_, ?_⟩ <;> omega) | (simp; done) | (simp; omega))) (sc rfl (sc rfl (sc rfl (sc rfl sn)))) [0, 1, 2, 3, 4, 5] ⟨by decide, rfl⟩
 ·
  have hc_9 := of_decide_eq_false hc_9
  refine T_exit rfl ?_
  obtain rfl : 32 = j := by omega
  refine Tsr hF rfl ?_
  refine lq rfl (ld_agg (ds := ((pre0 (hkdf (mactag salt key) info 32) 32 32).map b8)) 0 rfl agg_all Tryd.underlying34 rfl (fwz (n := 32) kr sd) rfl rfl) rfl rfl ?_
  refine L_op rfl (op_sto (n := 32) (vs := ((pre0 (hkdf (mactag salt key) info 32) 32 32).map b8)) 2 rfl rfl kr (all8_one _) kr sd rfl rfl rfl rfl ?_)
  refine L_nil ?_
  refine T_ret ?_
  refine T_as 0 _ (.blk g1 34 ((hkdf (mactag salt key) info 32).map b8)) rfl (by rw [pre0_all _ _ hkl2]) ?_
  exact T_fin () (by first | trivial | omega | (simp; done)) (resb 0 rfl rfl rfl Tryd.underlying34 rfl (fwz (n := 32) kr sd)) [] ⟨by decide, rfl⟩ rfl
end Go.Proofs.YtlplpmkdebemnaaDoor
namespace Go.Proofs.YtlplpmkdebemnaaDoor
set_option linter.unusedVariables false
set_option linter.unusedSimpArgs false
set_option linter.unnecessarySimpa false
set_option maxRecDepth 100000
open Go.RowKit Bv Fw

/-- Numbers, eight bytes each, the lowest first. -/
def eights : List (BitVec 64) → List (BitVec 8)
  | [] => []
  | x :: xs => lowb x 8 ++ eights xs
theorem eights_len : ∀ xs, (eights xs).length = 8 * xs.length
  | [] => rfl
  | x :: xs => by rw [eights, List.length_append, lowb_len, eights_len xs, List.length_cons]; omega
theorem eights_app (xs ys : List (BitVec 64)) : eights (xs ++ ys) = eights xs ++ eights ys := by
  induction xs with
  | nil => rfl
  | cons x xs ih => rw [List.cons_append, eights, eights, ih, List.append_assoc]
theorem eights_take (xs : List (BitVec 64)) (k : Nat) (h : k < xs.length) : eights (xs.take (k + 1)) = eights (xs.take k) ++ lowb (ath xs k) 8 := by
  rw [List.take_succ_eq_append_getElem h, eights_app, ath_get xs k h]
  simp [eights]
/-- The numbers that bytes are. -/
def wds (b : List (BitVec 8)) : Nat → List (BitVec 64)
  | 0 => []
  | k + 1 => wds b k ++ [low (List.take 8 (List.drop (8 * k) b)) 8]
theorem wds_len (b : List (BitVec 8)) : ∀ k, (wds b k).length = k
  | 0 => rfl
  | k + 1 => by rw [wds, List.length_append, wds_len b k]; rfl
theorem num8 (b : List (BitVec 8)) : ((((((((0#64 <<< 8 ||| (ath b 7).setWidth 64) <<< 8 ||| (ath b 6).setWidth 64) <<< 8 ||| (ath b 5).setWidth 64) <<< 8 ||| (ath b 4).setWidth 64) <<< 8 ||| (ath b 3).setWidth 64) <<< 8 ||| (ath b 2).setWidth 64) <<< 8 ||| (ath b 1).setWidth 64) <<< 8 ||| (ath b 0).setWidth 64) = low b 8 := by
  simp only [low]
  generalize (ath b 0).setWidth 64 = x0
  generalize (ath b 1).setWidth 64 = x1
  generalize (ath b 2).setWidth 64 = x2
  generalize (ath b 3).setWidth 64 = x3
  generalize (ath b 4).setWidth 64 = x4
  generalize (ath b 5).setWidth 64 = x5
  generalize (ath b 6).setWidth 64 = x6
  generalize (ath b 7).setWidth 64 = x7
  simp only [BitVec.shiftLeft_or_distrib, ← BitVec.shiftLeft_add, BitVec.zero_shiftLeft, BitVec.zero_or, Nat.reduceAdd, Nat.reduceMul, BitVec.shiftLeft_zero]
  generalize x1 <<< 8 = y1
  generalize x2 <<< 16 = y2
  generalize x3 <<< 24 = y3
  generalize x4 <<< 32 = y4
  generalize x5 <<< 40 = y5
  generalize x6 <<< 48 = y6
  generalize x7 <<< 56 = y7
  clear b
  ac_rfl

set_option maxHeartbeats 4000000 in
theorem r8eight_f (v : BitVec 64) (w : World) (hO : HOK [] w)  : Calls Tryd.prog 13 [(b64 v)].toArray w (Ret (T := Option Addr × Nat) [] w (fun ⟨B, d⟩ => True) (fun ⟨B, d⟩ => (.slice B 8 d)) (fun ⟨B, d⟩ => [.row (.slice B 8 d) 5 1 8 ((lowb v 8).map b8)])) := by
 have hF : Wid Fence.wide := wid_wide
 refine enter (c := _) Tryd.func13 rfl [] _ [] (by rw [Tryd.ntmps13]; rfl) (own_rds hO rfl) ?_
 rw [Tryd.ntmps13]
 refine T_re [(0, (b64 v))] (sc rfl sn) ?_
 refine T_he [] [] ⟨by decide, rfl⟩ ?_
 refine Tsr hF rfl ?_
 refine la rfl rfl rfl rfl rfl ?_
 refine L_nil ?_
 refine Tsr hF rfl ?_
 refine la rfl rfl rfl rfl rfl ?_
 refine L_nil ?_
 refine T_seq ?_
 refine Tsr hF rfl ?_
 refine la rfl rfl rfl rfl rfl ?_
 refine L_nil ?_
 refine T_block ?_
 refine T_nilrow 5 1 ?_
 refine T_as 0 _ (.row (.slice none 0 0) 5 1 0 ((lowb v 0).map b8)) rfl (by first | rfl | simp | (congr 1; simp)) ?_
 refine T_loop (T := Nat × Option Addr × Nat) (fun ⟨k, A1, c1⟩ => k ≤ 8) (fun ⟨k, A1, c1⟩ => [(0, (b64 v)), (3, (.slice A1 k c1)), (4, (.int .i64 ((k : Nat) : Int)))]) (fun ⟨k, A1, c1⟩ => [.row (.slice A1 k c1) 5 1 k ((lowb v k).map b8)]) (fun ⟨k, A1, c1⟩ => 8 - k) (0, none, 0) (by first | trivial | ((try dsimp only); first | omega | (refine ⟨?_, ?_⟩ <;> omega) | (refine ⟨?_, ?_, ?_⟩ <;> omega) | (simp; done) | (simp; omega))) (sc rfl (sc rfl (sc rfl sn))) [0] ⟨by decide, rfl⟩ ?_
 rintro ⟨k, A1, c1⟩ hp
 have hp : k ≤ 8 := hp
 refine T_re [(0, (b64 v)), (3, (.slice A1 k c1)), (4, (.int .i64 ((k : Nat) : Int)))] (sc rfl (sc rfl (sc rfl sn))) ?_
 refine T_he [0] [.row (.slice A1 k c1) 5 1 k ((lowb v k).map b8)] ⟨by decide, rfl⟩ ?_
 refine T_seq ?_
 refine Tsr hF rfl ?_
 refine lm rfl rfl rfl rfl rfl ?_
 refine lo rfl (pr_cmp (bo := .lss) (nc_lt (a := k) (b := 8)) rfl rfl rfl rfl) rfl rfl ?_
 refine L_nil ?_
 refine T_cond (decide (k < 8)) rfl (fun hc_1 => ?_) (fun hc_1 => ?_)
 ·
  have hc_1 := of_decide_eq_true hc_1
  refine T_skip ?_
  refine T_seq ?_
  refine T_block ?_
  refine T_reg hF rfl ?_
  refine lm rfl rfl rfl rfl rfl ?_
  refine lm rfl rfl rfl rfl rfl ?_
  refine lm rfl rfl rfl rfl rfl ?_
  refine lo rfl (pr_mul (nm_i64 (a := 8) (b := k) sd) rfl rfl rfl) rfl rfl ?_
  refine lo rfl (pr_cv (ni_u64 (a := 8 * k) sd) Tryd.underlying3 Tryd.underlying57 rfl rfl) rfl rfl ?_
  refine lo rfl (pr_shift (sh_shr64 v _ (8 * k)) rfl rfl rfl rfl) rfl rfl ?_
  refine lo rfl (pr_cv (cv64_8 _) Tryd.underlying22 Tryd.underlying5 rfl rfl) rfl rfl ?_
  refine L_op rfl (op_bslice (e := 5) (zs := [(b8 ((v >>> (8 * k)).setWidth 8))]) (qs := [(0, (b8 ((v >>> (8 * k)).setWidth 8)))]) (fun _ => by kernel_rfl) rfl rfl rfl rfl (fun g2 => ?_))
  refine L_op rfl (op_append (z := (b8 (0#8))) (size := 1) (bytes := 1) 1 rfl Tryd.underlying29 kr kr (by decide) (src_full (z := 1) 0 rfl rfl sd sd) (by simp [Value.oneCell']) sd sd rfl rfl rfl rfl rfl (fun A3 C4 => ?_))
  refine T_as 0 _ (.row (.slice A3 (k + 1) C4) 5 1 (k + 1) (((lowb v k) ++ [((v >>> (8 * k)).setWidth 8)]).map b8)) rfl (by first | rfl | (congr 1; simp; done) | (simp only [List.map_append]; rfl) | (rw [List.map_append]; rfl)) ?_
  refine la rfl rfl rfl rfl rfl ?_
  refine L_nil ?_
  refine T_reg hF rfl ?_
  refine lm rfl rfl rfl rfl rfl ?_
  refine lo rfl (pr_add (na_i64 (a := k) (b := 1) sd) rfl rfl rfl) rfl rfl ?_
  refine la rfl rfl rfl rfl rfl ?_
  refine L_nil ?_
  refine T_as 0 _ (.row (.slice A3 (k + 1) C4) 5 1 (k + 1) ((lowb v (k + 1)).map b8)) rfl (by first | rfl | simp | (congr 1; simp)) ?_
  exact T_again (k + 1, A3, C4) (by first | trivial | ((try dsimp only); first | omega | (refine ⟨?_, ?_⟩ <;> omega) | (refine ⟨?_, ?_, ?_⟩ <;> omega) | (simp; done) | (simp; omega))) (by first | trivial | ((try dsimp only); first | omega | (refine ⟨?_, ?_⟩ <;> omega) | (refine ⟨?_, ?_, ?_⟩ <;> omega) | (simp; done) | (simp; omega))) (sc rfl (sc rfl (sc rfl sn))) [0] ⟨by decide, rfl⟩
 ·
  have hc_1 := of_decide_eq_false hc_1
  refine T_exit rfl ?_
  obtain rfl : 8 = k := by omega
  refine Tsr hF rfl ?_
  refine lm rfl rfl rfl rfl rfl ?_
  refine la rfl rfl rfl rfl rfl ?_
  refine L_nil ?_
  refine T_ret ?_
  exact T_fin (A1, c1) (by first | trivial | omega | (simp; done)) (res1 rfl rfl) [0] ⟨by decide, rfl⟩ rfl
set_option maxHeartbeats 4000000 in
theorem r8eights_f (xs : List (BitVec 64)) (A : Option Addr) (n : Nat) (c : Nat) (w : World) (hO : HOK [.rd A 1 n c (xs.map b64)] w) (hx : xs.length = n) (hn : n ≤ 100) : Calls Tryd.prog 34 [(.slice A n c)].toArray w (Ret (T := Option Addr × Nat) [] w (fun ⟨B, d⟩ => True) (fun ⟨B, d⟩ => (.slice B (8 * n) d)) (fun ⟨B, d⟩ => [.row (.slice B (8 * n) d) 5 1 (8 * n) ((eights xs).map b8)])) := by
 have hF : Wid Fence.wide := wid_wide
 refine enter (c := _) Tryd.func34 rfl [] _ [.rd A 1 n c (xs.map b64)] (by rw [Tryd.ntmps34]; rfl) (own_rds hO rfl) ?_
 rw [Tryd.ntmps34]
 refine T_re [(0, (.slice A n c))] (sc rfl sn) ?_
 refine T_he [0] [.rd A 1 n c (xs.map b64)] ⟨by decide, rfl⟩ ?_
 refine Tsr hF rfl ?_
 refine la rfl rfl rfl rfl rfl ?_
 refine L_nil ?_
 refine Tsr hF rfl ?_
 refine la rfl rfl rfl rfl rfl ?_
 refine L_nil ?_
 refine T_seq ?_
 refine Tsr hF rfl ?_
 refine la rfl rfl rfl rfl rfl ?_
 refine L_nil ?_
 refine T_block ?_
 refine T_slot 3 (.slice none 0 0) (.slice none (8 * 0) 0) rfl (by first | rfl | (congr 2; omega) | (simp; omega)) ?_
 refine T_nilrow 5 1 ?_
 refine T_as 0 _ (.row (.slice none (8 * 0) 0) 5 1 (8 * 0) ((eights (xs.take 0)).map b8)) rfl (by first | rfl | simp | (congr 1; simp)) ?_
 refine T_loop (T := Nat × Option Addr × Nat) (fun ⟨k, A1, c1⟩ => k ≤ n) (fun ⟨k, A1, c1⟩ => [(0, (.slice A n c)), (3, (.slice A1 (8 * k) c1)), (4, (.int .i64 ((k : Nat) : Int)))]) (fun ⟨k, A1, c1⟩ => [.row (.slice A1 (8 * k) c1) 5 1 (8 * k) ((eights (xs.take k)).map b8), .rd A 1 n c (xs.map b64)]) (fun ⟨k, A1, c1⟩ => n - k) (0, none, 0) (by first | trivial | ((try dsimp only); first | omega | (refine ⟨?_, ?_⟩ <;> omega) | (refine ⟨?_, ?_, ?_⟩ <;> omega) | (simp; done) | (simp; omega))) (sc rfl (sc rfl (sc rfl sn))) [0, 1] ⟨by decide, rfl⟩ ?_
 rintro ⟨k, A1, c1⟩ hp
 have hp : k ≤ n := hp
 refine T_re [(0, (.slice A n c)), (3, (.slice A1 (8 * k) c1)), (4, (.int .i64 ((k : Nat) : Int)))] (sc rfl (sc rfl (sc rfl sn))) ?_
 refine T_he [0, 1] [.row (.slice A1 (8 * k) c1) 5 1 (8 * k) ((eights (xs.take k)).map b8), .rd A 1 n c (xs.map b64)] ⟨by decide, rfl⟩ ?_
 refine T_seq ?_
 refine Tsr hF rfl ?_
 refine lm rfl rfl rfl rfl rfl ?_
 refine lm rfl rfl rfl rfl rfl ?_
 refine lo rfl (pr_len_sl Tryd.underlying61 rfl rfl) rfl rfl ?_
 refine lo rfl (pr_cmp (bo := .lss) (nc_lt (a := k) (b := n)) rfl rfl rfl rfl) rfl rfl ?_
 refine L_nil ?_
 refine T_cond (decide (k < n)) rfl (fun hc_1 => ?_) (fun hc_1 => ?_)
 ·
  have hc_1 := of_decide_eq_true hc_1
  refine T_skip ?_
  refine T_seq ?_
  refine T_block ?_
  refine T_reg hF rfl ?_
  refine lm rfl rfl rfl rfl rfl ?_
  refine lm rfl rfl rfl rfl rfl ?_
  refine lm rfl rfl rfl rfl rfl ?_
  refine lo rfl (pr_ixs1 (j := k) (src_none (src_rd 1 rfl)) sd Tryd.underlying61 kr rfl rfl rfl) rfl rfl ?_
  refine lq rfl (ld_src (m := k) (src_rd 1 rfl) (get64 sd) Tryd.underlying22 rfl rfl rfl) rfl rfl ?_
  refine L_op rfl (op_cn (fun w hw => r8eight_f (ath xs k) w (hok_nil w) ) (enters_of Tryd.func13 kr rfl) rfl rfl rfl rfl rfl (fun t2 q3 => ?_))
  obtain ⟨B4, d5⟩ := t2
  refine L_op rfl (op_append (z := (b8 (0#8))) (size := 1) (bytes := 1) 1 rfl Tryd.underlying29 kr kr (by decide) (src_row 0 rfl) (all8_one _) sd sd rfl rfl rfl rfl rfl (fun A6 C7 => ?_))
  refine T_as 0 _ (.row (.slice A6 (8 * k + 8) C7) 5 1 (8 * k + 8) (((eights (xs.take k)) ++ (lowb (ath xs k) 8)).map b8)) rfl (by first | rfl | (congr 1; simp; done) | (simp only [List.map_append]; rfl) | (rw [List.map_append]; rfl)) ?_
  refine la rfl rfl rfl rfl rfl ?_
  refine L_nil ?_
  refine T_reg hF rfl ?_
  refine lm rfl rfl rfl rfl rfl ?_
  refine lo rfl (pr_add (na_i64 (a := k) (b := 1) sd) rfl rfl rfl) rfl rfl ?_
  refine la rfl rfl rfl rfl rfl ?_
  refine L_nil ?_
  refine T_slot 3 (.slice A6 (8 * k + 8) C7) (.slice A6 (8 * (k + 1)) C7) rfl (by first | rfl | (congr 2; omega) | (simp; omega)) ?_
  refine T_as 0 _ (.row (.slice A6 (8 * (k + 1)) C7) 5 1 (8 * (k + 1)) ((eights (xs.take (k + 1))).map b8)) rfl (by rw [eights_take _ _ (by omega)]; rfl) ?_
  exact T_again (k + 1, A6, C7) (by first | trivial | ((try dsimp only); first | omega | (refine ⟨?_, ?_⟩ <;> omega) | (refine ⟨?_, ?_, ?_⟩ <;> omega) | (simp; done) | (simp; omega))) (by first | trivial | ((try dsimp only); first | omega | (refine ⟨?_, ?_⟩ <;> omega) | (refine ⟨?_, ?_, ?_⟩ <;> omega) | (simp; done) | (simp; omega))) (sc rfl (sc rfl (sc rfl sn))) [0, 2] ⟨by decide, rfl⟩
 ·
  have hc_1 := of_decide_eq_false hc_1
  refine T_exit rfl ?_
  obtain rfl : n = k := by omega
  refine Tsr hF rfl ?_
  refine lm rfl rfl rfl rfl rfl ?_
  refine la rfl rfl rfl rfl rfl ?_
  refine L_nil ?_
  refine T_ret ?_
  refine T_as 0 _ (.row (.slice A1 (8 * n) c1) 5 1 (8 * n) ((eights xs).map b8)) rfl (by rw [List.take_of_length_le (by omega)]) ?_
  exact T_fin (A1, c1) (by first | trivial | omega | (simp; done)) (res1 rfl rfl) [0] ⟨by decide, rfl⟩ rfl
end Go.Proofs.YtlplpmkdebemnaaDoor
namespace Go.Proofs.YtlplpmkdebemnaaDoor
set_option linter.unusedVariables false
set_option linter.unusedSimpArgs false
set_option linter.unnecessarySimpa false
set_option maxRecDepth 100000
open Go.RowKit Bv Fw

/-- The bytes of the first k numbers, eight each. -/
def eib (xs : List (BitVec 64)) : Nat → List (BitVec 8)
  | 0 => []
  | k + 1 => eib xs k ++ lowb (ath xs k) 8
theorem eib_zero (xs : List (BitVec 64)) : eib xs 0 = [] := rfl
theorem eib_succ (xs : List (BitVec 64)) (k : Nat) : eib xs (k + 1) = eib xs k ++ lowb (ath xs k) 8 := rfl
theorem eib_len (xs : List (BitVec 64)) : ∀ k, (eib xs k).length = 8 * k
  | 0 => rfl
  | k + 1 => by rw [eib, List.length_append, eib_len xs k, lowb_len]; omega
theorem eib_one (v : BitVec 64) : eib [v] 1 = lowb v 8 := rfl
attribute [irreducible] eib

set_option maxHeartbeats 4000000 in
theorem eights_f (xs : List (BitVec 64)) (A : Option Addr) (n : Nat) (c : Nat) (w : World) (hO : HOK [.rd A 1 n c (xs.map b64)] w) (hx : xs.length = n) (hn : n ≤ 100000) : Calls Tryd.prog 30 [(.slice A n c)].toArray w (Ret (T := Option Addr × Nat) [] w (fun ⟨B, d⟩ => True) (fun ⟨B, d⟩ => (.slice B (8 * n) d)) (fun ⟨B, d⟩ => [.row (.slice B (8 * n) d) 5 1 (8 * n) ((eib xs n).map b8)])) := by
 have hF : Wid Fence.wide := wid_wide
 refine enter (c := _) Tryd.func30 rfl [] _ [.rd A 1 n c (xs.map b64)] (by rw [Tryd.ntmps30]; rfl) (own_rds hO rfl) ?_
 rw [Tryd.ntmps30]
 refine T_re [(0, (.slice A n c))] (sc rfl sn) ?_
 refine T_he [0] [.rd A 1 n c (xs.map b64)] ⟨by decide, rfl⟩ ?_
 refine Tsr hF rfl ?_
 refine la rfl rfl rfl rfl rfl ?_
 refine L_nil ?_
 refine Tsr hF rfl ?_
 refine lm rfl rfl rfl rfl rfl ?_
 refine lo rfl (pr_len_sl Tryd.underlying61 rfl rfl) rfl rfl ?_
 refine lo rfl (pr_mul (nm_i64 (a := 8) (b := n) sd) rfl rfl rfl) rfl rfl ?_
 refine L_op rfl (op_make (z := (b8 (0#8))) (n := 0) (c := 8 * n) Tryd.underlying29 (bytes := 1) kr rfl sd sd sd rfl rfl rfl rfl rfl (fun g1 => ?_))
 refine T_as 0 _ (.blk g1 5 ((List.replicate (8 * n) 0#8).map b8)) rfl (by rw [List.map_replicate]) ?_
 refine la rfl rfl rfl rfl rfl ?_
 refine L_nil ?_
 refine T_seq ?_
 refine Tsr hF rfl ?_
 refine lm rfl rfl rfl rfl rfl ?_
 refine lo rfl (pr_len_sl Tryd.underlying61 rfl rfl) rfl rfl ?_
 refine lm rfl rfl rfl rfl rfl ?_
 refine L_nil ?_
 refine T_block ?_
 refine T_slot 3 (.slice (some ⟨g1, 0, none⟩) 0 (8 * n)) (.slice (some ⟨g1, 0, none⟩) (8 * 0) (8 * n)) rfl (by first | rfl | (congr 2; omega) | (simp; omega)) ?_
 refine T_rowb 0 (zs := ((eib xs 0).map b8)) 1 (8 * 0) (8 * n) rfl sd sd sd (by rw [eib_zero]; rfl) ?_
 refine T_loop (T := Nat × Option Addr × Nat) (fun ⟨k, A1, c1⟩ => k ≤ n) (fun ⟨k, A1, c1⟩ => [(3, (.slice A1 (8 * k) c1)), (10, (.slice A n c)), (11, (.int .i64 ((n : Nat) : Int))), (12, (.int .i64 ((k : Nat) : Int)))]) (fun ⟨k, A1, c1⟩ => [.row (.slice A1 (8 * k) c1) 5 1 (8 * k) ((eib xs k).map b8), .rd A 1 n c (xs.map b64)]) (fun ⟨k, A1, c1⟩ => n - k) (0, some ⟨g1, 0, none⟩, 8 * n) (by first | trivial | ((try dsimp only); first | omega | (refine ⟨?_, ?_⟩ <;> omega) | (refine ⟨?_, ?_, ?_⟩ <;> omega) | (simp; done) | (simp; omega))) (sc rfl (sc rfl (sc rfl (sc rfl sn)))) [0, 1] ⟨by decide, rfl⟩ ?_
 rintro ⟨k, A1, c1⟩ hp
 have hp : k ≤ n := hp
 refine T_re [(3, (.slice A1 (8 * k) c1)), (10, (.slice A n c)), (11, (.int .i64 ((n : Nat) : Int))), (12, (.int .i64 ((k : Nat) : Int)))] (sc rfl (sc rfl (sc rfl (sc rfl sn)))) ?_
 refine T_he [0, 1] [.row (.slice A1 (8 * k) c1) 5 1 (8 * k) ((eib xs k).map b8), .rd A 1 n c (xs.map b64)] ⟨by decide, rfl⟩ ?_
 refine Tsr hF rfl ?_
 refine lo rfl (pr_cmp (bo := .lss) (nc_lt (a := k) (b := n)) rfl rfl rfl rfl) rfl rfl ?_
 refine L_nil ?_
 refine T_seq ?_
 refine T_cond (decide (k < n)) rfl (fun hc_2 => ?_) (fun hc_2 => ?_)
 ·
  have hc_2 := of_decide_eq_true hc_2
  refine T_skip ?_
  refine T_seq ?_
  refine T_block ?_
  refine Tsr hF rfl ?_
  refine lo rfl (pr_ixs1 (j := k) (src_none (src_rd 1 rfl)) sd Tryd.underlying61 kr rfl rfl rfl) rfl rfl ?_
  refine lq rfl (ld_src (m := k) (src_rd 1 rfl) (get64 sd) Tryd.underlying22 rfl rfl rfl) rfl rfl ?_
  refine la rfl rfl rfl rfl rfl ?_
  refine L_nil ?_
  refine T_reg hF rfl ?_
  refine lm rfl rfl rfl rfl rfl ?_
  refine lm rfl rfl rfl rfl rfl ?_
  refine L_op rfl (op_c1 0 rfl (fun w hw => putLow_f (eib xs k) (ath xs k) 8 A1 (8 * k) c1 w (hw _ (List.mem_of_getElem? (i := 0) rfl)) sd sd) (enters_of Tryd.func29 kr rfl) rfl rfl rfl rfl rfl (fun t3 q4 => ?_))
  obtain ⟨B5, d6⟩ := t3
  refine la rfl rfl rfl rfl rfl ?_
  refine L_nil ?_
  refine T_reg hF rfl ?_
  refine lo rfl (pr_add (na_i64 (a := k) (b := 1) sd) rfl rfl rfl) rfl rfl ?_
  refine lm rfl rfl rfl rfl rfl ?_
  refine L_nil ?_
  refine T_slot 3 (.slice B5 ((8 * k) + 8) d6) (.slice B5 (8 * (k + 1)) d6) rfl (by rfl) ?_
  refine T_as 0 _ (.row (.slice B5 (8 * (k + 1)) d6) 5 1 (8 * (k + 1)) ((eib xs (k + 1)).map b8)) rfl (by rw [eib_succ]; rfl) ?_
  exact T_again (k + 1, B5, d6) (by first | trivial | ((try dsimp only); first | omega | (refine ⟨?_, ?_⟩ <;> omega) | (refine ⟨?_, ?_, ?_⟩ <;> omega) | (simp; done) | (simp; omega))) (by first | trivial | ((try dsimp only); first | omega | (refine ⟨?_, ?_⟩ <;> omega) | (refine ⟨?_, ?_, ?_⟩ <;> omega) | (simp; done) | (simp; omega))) (sc rfl (sc rfl (sc rfl (sc rfl sn)))) [0, 1] ⟨by decide, rfl⟩
 ·
  have hc_2 := of_decide_eq_false hc_2
  refine T_exit rfl ?_
  obtain rfl : n = k := by omega
  refine Tsr hF rfl ?_
  refine lm rfl rfl rfl rfl rfl ?_
  refine la rfl rfl rfl rfl rfl ?_
  refine L_nil ?_
  refine T_ret ?_
  exact T_fin (A1, c1) (by first | trivial | omega | (simp; done)) (res1 rfl rfl) [0] ⟨by decide, rfl⟩ rfl
end Go.Proofs.YtlplpmkdebemnaaDoor
namespace Go.Proofs.YtlplpmkdebemnaaDoor
set_option linter.unusedVariables false
set_option linter.unusedSimpArgs false
set_option linter.unnecessarySimpa false
set_option maxRecDepth 100000
open Go.RowKit Bv Fw

/-- The key that is made of another one, for an end. -/
def kof (job info : List (BitVec 8)) : List (BitVec 8) := hkdf (mactag [] job) info 32
theorem kof_def (job info : List (BitVec 8)) : hkdf (mactag [] job) info 32 = kof job info := rfl
theorem kof_len (job info : List (BitVec 8)) : (kof job info).length = 32 := hkdf_len _ _ _ (by omega)
attribute [irreducible] kof
/-- The nonce of two numbers. -/
def nonc (a i : BitVec 64) : List (BitVec 8) := lowb a 8 ++ lowb i 4
theorem nonc_def (a i : BitVec 64) : lowb a 8 ++ lowb i 4 = nonc a i := rfl
theorem nonc_len (a i : BitVec 64) : (nonc a i).length = 12 := by unfold nonc; rw [List.length_append, lowb_len, lowb_len]
attribute [irreducible] nonc
theorem eights_one (a : BitVec 64) : (eights [a]).length = 8 := eights_len _
theorem eights_two (a b : BitVec 64) : (eights [a, b]).length = 16 := eights_len _
theorem eights_three (a b c : BitVec 64) : (eights [a, b, c]).length = 24 := eights_len _
theorem eights_six (a b c d e f : BitVec 64) : (eights [a, b, c, d, e, f]).length = 48 := eights_len _
theorem txt_next {cur : List Value} {n n' c : Nat} {fr : Nat × Nat} {zs zs' : List (BitVec 8)} (h : Txt cur n c fr zs) (hn : n = n') (hz : zs = zs') : Txt cur n' c fr zs' := hn ▸ hz ▸ h

set_option maxHeartbeats 4000000 in
theorem keights_seq (xs : List (BitVec 64)) (A : Option Addr) (n : Nat) (c : Nat) (g1 : Nat) (hx : xs.length = n) (hn : n ≤ 1000000) : SeqC (Θ := Option Addr × Nat) Tryd.prog 49 [(.pointer (some ⟨g1, 0, none⟩))] [.rd (some ⟨g1, 0, none⟩) 1 1 1 [(.slice A n c)], .rd A 1 n c (xs.map b64)] n (fun k ⟨B, d⟩ => [(.slice B 8 d)]) (fun k ⟨B, d⟩ => [.rd B 1 8 d ((lowb (ath xs k) 8).map b8)]) := by
 have hF : Wid Fence.wide := wid_wide
 refine enter_seq (c := _) Tryd.func49 rfl (by rw [Tryd.ntmps49]; rfl) rfl ?_
 intro l J Jx W O R hsJ hsX hy hend
 rw [Tryd.ntmps49]
 refine T_re [(0, (.func (.yield l) #[] #[])), (1, (.pointer (some ⟨g1, 0, none⟩)))] (sc rfl (sc rfl sn)) ?_
 refine T_he [0, 1, 2] [.inv W.heap.size O R (J 0 O R), .rd (some ⟨g1, 0, none⟩) 1 1 1 [(.slice A n c)], .rd A 1 n c (xs.map b64)] ⟨by decide, rfl⟩ ?_
 refine Tsr hF rfl ?_
 refine lq rfl (ld_rdb (src_rd 1 rfl) rfl Tryd.underlying61 rfl rfl rfl) rfl rfl ?_
 refine lo rfl (pr_len_sl Tryd.underlying61 rfl rfl) rfl rfl ?_
 refine lm rfl rfl rfl rfl rfl ?_
 refine L_nil ?_
 refine T_block ?_
 refine T_loop (T := Nat × List Nat × List Nat) (fun ⟨k, O, R⟩ => k ≤ n) (fun ⟨k, O, R⟩ => [(0, (.func (.yield l) #[] #[])), (5, (.slice A n c)), (6, (.int .i64 ((n : Nat) : Int))), (7, (.int .i64 ((k : Nat) : Int)))]) (fun ⟨k, O, R⟩ => [.inv W.heap.size O R (J k O R), .rd (some ⟨g1, 0, none⟩) 1 1 1 [(.slice A n c)], .rd A 1 n c (xs.map b64)]) (fun ⟨k, O, R⟩ => n - k) (0, O, R) (by first | trivial | ((try dsimp only); first | omega | (refine ⟨?_, ?_⟩ <;> omega) | (refine ⟨?_, ?_, ?_⟩ <;> omega) | (simp; done) | (simp; omega))) (sc rfl (sc rfl (sc rfl (sc rfl sn)))) [0, 1, 2] ⟨by decide, rfl⟩ ?_
 rintro ⟨k, O, R⟩ hp
 have hp : k ≤ n := hp
 refine T_re [(0, (.func (.yield l) #[] #[])), (5, (.slice A n c)), (6, (.int .i64 ((n : Nat) : Int))), (7, (.int .i64 ((k : Nat) : Int)))] (sc rfl (sc rfl (sc rfl (sc rfl sn)))) ?_
 refine T_he [0, 1, 2] [.inv W.heap.size O R (J k O R), .rd (some ⟨g1, 0, none⟩) 1 1 1 [(.slice A n c)], .rd A 1 n c (xs.map b64)] ⟨by decide, rfl⟩ ?_
 refine Tsr hF rfl ?_
 refine lo rfl (pr_cmp (bo := .lss) (nc_lt (a := k) (b := n)) rfl rfl rfl rfl) rfl rfl ?_
 refine L_nil ?_
 refine T_seq ?_
 refine T_cond (decide (k < n)) rfl (fun hc_1 => ?_) (fun hc_1 => ?_)
 ·
  have hc_1 := of_decide_eq_true hc_1
  refine T_skip ?_
  refine T_seq ?_
  refine T_block ?_
  refine Tsr hF rfl ?_
  refine lo rfl (pr_ixs1 (j := k) (src_none (src_rd 2 rfl)) sd Tryd.underlying61 kr rfl rfl rfl) rfl rfl ?_
  refine lq rfl (ld_src (m := k) (src_rd 2 rfl) (get64 sd) Tryd.underlying22 rfl rfl rfl) rfl rfl ?_
  refine la rfl rfl rfl rfl rfl ?_
  refine L_nil ?_
  refine T_seq ?_
  refine T_regI ?_
  refine LI_opP hF rfl rfl (op_pr (pr_move rfl rfl) rfl rfl ?_)
  refine LI_opP hF rfl rfl (op_pr (pr_move rfl rfl) rfl rfl ?_)
  refine LI_opP hF rfl rfl (op_bslice (e := 22) (zs := [(b64 (ath xs k))]) (qs := [(0, (b64 (ath xs k)))]) (fun _ => by kernel_rfl) rfl rfl rfl rfl (fun g2 => ?_))
  refine LI_opP hF rfl rfl (op_cn (fun w hw => eights_f [(ath xs k)] (some ⟨g2, 0, none⟩) 1 1 w (hok_cons ((src_full (z := 1) 0 rfl rfl sd sd) w hw) (hok_nil w)) (by first | rfl | assumption | omega | (simp; done) | (simp; omega)) sd) (enters_of Tryd.func30 kr rfl) rfl rfl rfl rfl rfl (fun t3 q4 => ?_))
  obtain ⟨B5, d6⟩ := t3
  refine T_slot 14 (.slice B5 (8 * 1) d6) (.slice B5 8 d6) rfl (by congr 1) ?_
  refine T_as 0 _ (.row (.slice B5 8 d6) 5 1 8 ((lowb (ath xs k) 8).map b8)) rfl (by first | (rw [eib_one]; done) | (rw [eib_one]; rfl)) ?_
  refine T_old 0 rfl ?_
  refine T_tord 0 rfl ?_
  refine LI_op rfl (op_yield (k := k) ((B5 : Option Addr), (d6 : Nat)) hy sd hsJ hsX 2 rfl [0] rfl rfl rfl rfl rfl rfl rfl rfl rfl (fun _ => trivial) (fun O7 R8 => ?_) (fun O9 R10 => ?_))
  ·
   refine LI_opP hF rfl rfl (op_pr (pr_un (v := .bool false) rfl rfl rfl) rfl rfl ?_)
   refine LI_nil ?_
   refine T_cond_f rfl ?_
   refine T_skip ?_
   refine T_reg hF rfl ?_
   refine lo rfl (pr_add (na_i64 (a := k) (b := 1) sd) rfl rfl rfl) rfl rfl ?_
   refine lm rfl rfl rfl rfl rfl ?_
   refine L_nil ?_
   exact T_again (k + 1, O7, R8) (by first | trivial | ((try dsimp only); first | omega | (refine ⟨?_, ?_⟩ <;> omega) | (refine ⟨?_, ?_, ?_⟩ <;> omega) | (simp; done) | (simp; omega))) (by first | trivial | ((try dsimp only); first | omega | (refine ⟨?_, ?_⟩ <;> omega) | (refine ⟨?_, ?_, ?_⟩ <;> omega) | (simp; done) | (simp; omega))) (sc rfl (sc rfl (sc rfl (sc rfl sn)))) [0, 3, 4] ⟨by decide, rfl⟩
  ·
   refine LI_opP hF rfl rfl (op_pr (pr_un (v := .bool true) rfl rfl rfl) rfl rfl ?_)
   refine LI_nil ?_
   refine T_cond_t rfl ?_
   refine T_ret ?_
   exact T_finX rfl rfl 0 rfl
 ·
  have hc_1 := of_decide_eq_false hc_1
  refine T_exit rfl ?_
  obtain rfl : k = n := by omega
  exact T_finJ rfl rfl 0 rfl
set_option maxHeartbeats 4000000 in
theorem keights_f (A : Option Addr) (n : Nat) (c : Nat) (w : World) (hO : HOK [] w)  : Calls Tryd.prog 40 [(.slice A n c)].toArray w (Ret (T := Nat) [] w (fun g1 => True) (fun g1 => (.func (.func 49) #[] [(.pointer (some ⟨g1, 0, none⟩))].toArray)) (fun g1 => [.old (some ⟨g1, 0, none⟩) 1 1 1 [(.slice A n c)]])) := by
 have hF : Wid Fence.wide := wid_wide
 refine enter (c := _) Tryd.func40 rfl [] _ [] (by rw [Tryd.ntmps40]; rfl) (own_rds hO rfl) ?_
 rw [Tryd.ntmps40]
 refine T_re [(0, (.slice A n c))] (sc rfl sn) ?_
 refine T_he [] [] ⟨by decide, rfl⟩ ?_
 refine Tsr hF rfl ?_
 refine L_op rfl (op_box (zs := [(.slice A n c)]) rfl rfl rfl rfl rfl (fun g1 => ?_))
 refine la rfl rfl rfl rfl rfl ?_
 refine L_nil ?_
 refine Tsr hF rfl ?_
 refine lo rfl (pr_mkfn (us := []) (vs := [(.pointer (some ⟨g1, 0, none⟩))]) rfl rfl rfl) rfl rfl ?_
 refine la rfl rfl rfl rfl rfl ?_
 refine L_nil ?_
 refine T_ret ?_
 refine T_oldb 0 (zs := [(.slice A n c)]) 0 1 1 1 rfl rfl rfl sd sd ?_
 exact T_fin g1 (by first | trivial | omega | (simp; done)) (res1 rfl rfl) [0] ⟨by decide, rfl⟩ rfl
set_option maxHeartbeats 4000000 in
theorem kinfo_f (wd : List (BitVec 8)) (nw : Nat) (xs : List (BitVec 64)) (A : Option Addr) (n : Nat) (c : Nat) (w : World) (hO : HOK [.rd A 1 n c (xs.map b64)] w) (hnw : wd.length = nw) (hw : nw ≤ 100) (hx : xs.length = n) (hn : n ≤ 100) : Calls Tryd.prog 28 [(.string (sob wd)), (.slice A n c)].toArray w (Ret (T := Option Addr × Nat) [] w (fun ⟨B, d⟩ => True) (fun ⟨B, d⟩ => (.slice B (nw + 8 * n) d)) (fun ⟨B, d⟩ => [.old B 1 (nw + 8 * n) d ((wd ++ eights xs).map b8)])) := by
 have hF : Wid Fence.wide := wid_wide
 refine enter_m (c := _) Tryd.func28 rfl [] _ [.rd A 1 n c (xs.map b64)] (by rw [Tryd.ntmps28]; rfl) (own_rds hO rfl) ?_
 rw [Tryd.ntmps28]
 refine T_re [(0, (.string (sob wd))), (1, (.slice A n c))] (sc rfl (sc rfl sn)) ?_
 refine T_he [0] [.rd A 1 n c (xs.map b64)] ⟨by decide, rfl⟩ ?_
 refine Tsr hF rfl ?_
 refine la rfl rfl rfl rfl rfl ?_
 refine L_nil ?_
 refine Tsr hF rfl ?_
 refine lm rfl rfl rfl rfl rfl ?_
 refine L_op rfl (op_s2b (xs := wd) Tryd.underlying9 Tryd.underlying29 Tryd.underlying5 sd rfl rfl rfl rfl (fun g1 C2 cu3 fr4 hT_5 => ?_))
 replace hT_5 : Txt cu3 wd.length C2 fr4 wd := hT_5
 replace hT_5 : Txt cu3 nw C2 fr4 wd := txt_as hT_5 hnw rfl
 refine T_slot 8 (.slice (some ⟨g1, 0, none⟩) wd.length C2) (.slice (some ⟨g1, 0, none⟩) nw C2) rfl (by rw [hnw]) ?_
 refine L_op rfl (op_alloc (z := (.slice none 0 0)) (zs := [(.slice none 0 0)]) kr rfl rfl rfl rfl (fun g6 => ?_))
 refine L_op rfl (op_store (vs := [(.slice (some ⟨g1, 0, none⟩) nw C2)]) (cs' := [(.slice (some ⟨g1, 0, none⟩) nw C2)]) 0 rfl rfl kr (one_one rfl) (by first | decide | simp | exact Nat.le_refl _) rfl rfl rfl rfl rfl ?_)
 refine L_nil ?_
 refine T_seq ?_
 refine Tsr hF rfl ?_
 refine lm rfl rfl rfl rfl rfl ?_
 refine L_op rfl (op_cn (fun w hw => keights_f A n c w (hok_nil w) ) (enters_of Tryd.func40 kr rfl) rfl rfl rfl rfl rfl (fun t7 q8 => ?_))
 obtain ⟨g1_9, eg1_9⟩ : ∃ x, x = t7 := ⟨_, rfl⟩
 subst eg1_9
 refine L_nil ?_
 refine T_block ?_
 refine T_tord 0 rfl ?_
 refine T_as 1 _ (.blk g6 29 [(.slice (some ⟨g1, 0, none⟩) (nw + 8 * 0) C2)]) rfl (by congr 1) ?_
 refine T_range (Θ := Option Addr × Nat) (T := Nat × Nat × List Value × Nat × Nat) (Tx := Unit) (cap := [(.pointer (some ⟨g1_9, 0, none⟩))]) (ps := [11]) (keights_seq xs A n c g1_9 sd sd) rfl (enters_of Tryd.func49 kr rfl) (fun k ⟨tg, tc, tu, tf⟩ => k ≤ n ∧ Txt tu (nw + 8 * k) tc tf (wd ++ eights (xs.take k))) (fun k ⟨tg, tc, tu, tf⟩ => [.rd (some ⟨g1_9, 0, none⟩) 1 1 1 [(.slice A n c)], .blk g6 29 [(.slice (some ⟨tg, 0, none⟩) (nw + 8 * k) tc)], .obj tg (.cells tu.toArray 5 tf), .rd A 1 n c (xs.map b64)]) (fun _ => False) (fun _ => []) 0 (g1, C2, cu3, fr4) (⟨Nat.zero_le _, txt_next hT_5 (by omega) (by rw [List.take_zero, eights, List.append_nil])⟩) [1, 0, 2, 3] ⟨by decide, rfl⟩ [1, 3] rfl rfl (fun _ _ => rfl) (fun _ => rfl) (fun _ _ => rfl) (fun _ _ => rfl) rfl (fun _ => trivial) ?_ ?_ ?_
 ·
  intro C2 w2 lo2 rs2 l D m k t th rc hrec hk hp
  obtain ⟨tg, tc, tu, tf⟩ := t
  obtain ⟨B, d⟩ := th
  have hp : k ≤ n ∧ Txt tu (nw + 8 * k) tc tf (wd ++ eights (xs.take k)) := hp
  have hk : k < n := hk
  have hkn : k ≤ n := hp.1
  have hF : Wid (Fence.wide.inRound l) := wid_round l
  refine T_re [(5, (.pointer (some ⟨g6, 0, none⟩))), (11, (.slice B 8 d))] (sc rfl (sc rfl sn)) ?_
  refine T_he [0, 1, 2, 3, 4, 5, 6] [.rd B 1 8 d ((lowb (ath xs k) 8).map b8), .obj l (.loop rc), .obj D (.deferred (some [])), .rd (some ⟨g1_9, 0, none⟩) 1 1 1 [(.slice A n c)], .blk g6 29 [(.slice (some ⟨tg, 0, none⟩) (nw + 8 * k) tc)], .obj tg (.cells tu.toArray 5 tf), .rd A 1 n c (xs.map b64)] ⟨by decide, rfl⟩ ?_
  refine T_reg hF rfl ?_
  refine la rfl rfl rfl rfl rfl ?_
  refine L_nil ?_
  refine T_begun 1 rfl hrec ?_
  refine T_block ?_
  refine T_reg hF rfl ?_
  refine lq rfl (ld_blk 4 rfl rfl Tryd.underlying29 rfl rfl rfl) rfl rfl ?_
  refine lm rfl rfl rfl rfl rfl ?_
  refine L_op rfl (op_app_obj (news := (lowb (ath xs k) 8)) 5 rfl hp.2 Tryd.underlying29 kr (src_rd 1 rfl) sd rfl rfl rfl rfl rfl (fun g10 C11 cu12 fr13 hT_14 => ?_))
  refine L_op rfl (op_store (vs := [(.slice (some ⟨g10, 0, none⟩) (nw + 8 * k + 8) C11)]) (cs' := [(.slice (some ⟨g10, 0, none⟩) (nw + 8 * k + 8) C11)]) 5 rfl rfl kr (one_one rfl) (by first | decide | simp | exact Nat.le_refl _) rfl rfl rfl rfl rfl ?_)
  refine L_nil ?_
  refine T_as 0 _ (.blk g6 29 [(.slice (some ⟨g10, 0, none⟩) (nw + 8 * (k + 1)) C11)]) rfl (by congr 1) ?_
  exact T_on (g10, C11, cu12, fr13) (⟨by omega, txt_next (by assumption) (by omega) (by rw [eights_take _ _ (by omega), List.append_assoc])⟩) [2, 4, 5, 0, 1, 6] ⟨by decide, rfl⟩
 ·
  intro D t hp
  obtain ⟨tg, tc, tu, tf⟩ := t
  have hp : n ≤ n ∧ Txt tu (nw + 8 * n) tc tf (wd ++ eights (xs.take n)) := hp
  refine T_re [(5, (.pointer (some ⟨g6, 0, none⟩)))] (sc rfl sn) ?_
  refine T_he [0, 1, 2, 3, 4] [.obj D (.deferred (some [])), .rd (some ⟨g1_9, 0, none⟩) 1 1 1 [(.slice A n c)], .blk g6 29 [(.slice (some ⟨tg, 0, none⟩) (nw + 8 * n) tc)], .obj tg (.cells tu.toArray 5 tf), .rd A 1 n c (xs.map b64)] ⟨by decide, rfl⟩ ?_
  refine Tsr hF rfl ?_
  refine lq rfl (ld_blk 2 rfl rfl Tryd.underlying29 rfl rfl rfl) rfl rfl ?_
  refine la rfl rfl rfl rfl rfl ?_
  refine L_nil ?_
  refine T_ret ?_
  refine T_objold 3 rfl hp.2 (Txt.zlen hp.2) ?_
  refine T_as 0 _ (.old (some ⟨tg, 0, none⟩) 1 (nw + 8 * n) tc ((wd ++ eights xs).map b8)) rfl (by rw [List.take_of_length_le (by omega)]) ?_
  exact T_finM 1 rfl (some ⟨tg, 0, none⟩, tc) (by first | trivial | omega | (simp; done)) (res1 rfl rfl) [0] ⟨by decide, rfl⟩ rfl
 ·
  exact fun D t hq => hq.elim
set_option maxHeartbeats 4000000 in
theorem kplace_f (job : List (BitVec 8)) (pp : BitVec 64) (pr : BitVec 64) (pa : BitVec 64) (pt : BitVec 64) (pi : BitVec 64) (w : World) (hO : HOK [] w) (hj : job.length = 32) : Calls Tryd.prog 15 [(.agg (job.map b8).toArray), (.agg [(.int .i64 (i64 pp)), (.int .i64 (i64 pr)), (.int .i64 (i64 pa)), (b64 pt), (.int .i64 (i64 pi))].toArray)].toArray w (Ret (T := Unit) [] w (fun _ => True) (fun _ => (.agg ((kof job ([112#8, 108#8, 97#8, 99#8, 101#8] ++ eights [pp, pr, pa])).map b8).toArray)) (fun _ => [])) := by
 have hil : (([112#8, 108#8, 97#8, 99#8, 101#8] ++ eights [pp, pr, pa])).length = 29 := by rw [List.length_append, eights_three]; rfl
 have hkl := kof_len job ([112#8, 108#8, 97#8, 99#8, 101#8] ++ eights [pp, pr, pa])
 have hF : Wid Fence.wide := wid_wide
 refine enter (c := _) Tryd.func15 rfl [] _ [] (by rw [Tryd.ntmps15]; rfl) (own_rds hO rfl) ?_
 rw [Tryd.ntmps15]
 refine T_re [(0, (.agg (job.map b8).toArray)), (1, (.agg [(.int .i64 (i64 pp)), (.int .i64 (i64 pr)), (.int .i64 (i64 pa)), (b64 pt), (.int .i64 (i64 pi))].toArray))] (sc rfl (sc rfl sn)) ?_
 refine T_he [] [] ⟨by decide, rfl⟩ ?_
 refine Tsr hF rfl ?_
 refine L_op rfl (op_box (zs := (job.map b8)) rfl rfl rfl rfl rfl (fun g1 => ?_))
 refine L_op rfl (op_box (zs := [(.int .i64 (i64 pp)), (.int .i64 (i64 pr)), (.int .i64 (i64 pa)), (b64 pt), (.int .i64 (i64 pi))]) rfl rfl rfl rfl rfl (fun g2 => ?_))
 refine L_op rfl (op_alloc (z := .agg ((List.replicate 32 0#8).map b8).toArray) (zs := ((List.replicate 32 0#8).map b8)) kr rfl rfl rfl rfl (fun g3 => ?_))
 refine L_nil ?_
 refine T_seq ?_
 refine T_regD [.blk g3 34 ((List.replicate 32 0#8).map b8), .blk g2 24 [(.int .i64 (i64 pp)), (.int .i64 (i64 pr)), (.int .i64 (i64 pa)), (b64 pt), (.int .i64 (i64 pi))], .blk g1 34 (job.map b8)] 13 14 #[false, false, false, false, false, false, false, false, false, false, false, false, false, false] hF kr kr ?_
 refine D_pure (i := 0) [0, 1, 2] rfl kr rfl (pr_sla (l := 0) (u := 32) (m := 0) sd sd sd rfl Tryd.underlying34 (z := 1) kr rfl rfl rfl rfl) (.inr rfl) rfl rfl ?_
 refine D_pure (i := 1) [0, 1, 2] rfl kr rfl (pr_fa (m := 0) (m' := 0) (z := 0) (by rfl) Tryd.underlying24 rfl kr rfl rfl) (.inr rfl) rfl rfl ?_
 refine D_pure (i := 4) [0, 1, 2] rfl kr rfl (pr_fa (m := 0) (m' := 1) (z := 0) (by rfl) Tryd.underlying24 rfl kr rfl rfl) (.inr rfl) rfl rfl ?_
 refine D_pure (i := 7) [0, 1, 2] rfl kr rfl (pr_fa (m := 0) (m' := 2) (z := 0) (by rfl) Tryd.underlying24 rfl kr rfl rfl) (.inr rfl) rfl rfl ?_
 refine D_take (i := 2) [0, 1, 2] rfl kr rfl (ld_blk 1 rfl rfl Tryd.underlying3 rfl rfl rfl) rfl rfl rfl ?_
 refine D_pure (i := 3) [0, 1, 2] rfl kr rfl (pr_cv (zc_i64u pp) Tryd.underlying3 Tryd.underlying22 rfl rfl) (.inr rfl) rfl rfl ?_
 refine D_take (i := 5) [0, 1, 2] rfl kr rfl (ld_blk 1 rfl rfl Tryd.underlying3 rfl rfl rfl) rfl rfl rfl ?_
 refine D_pure (i := 6) [0, 1, 2] rfl kr rfl (pr_cv (zc_i64u pr) Tryd.underlying3 Tryd.underlying22 rfl rfl) (.inr rfl) rfl rfl ?_
 refine D_take (i := 8) [0, 1, 2] rfl kr rfl (ld_blk 1 rfl rfl Tryd.underlying3 rfl rfl rfl) rfl rfl rfl ?_
 refine D_pure (i := 9) [0, 1, 2] rfl kr rfl (pr_cv (zc_i64u pa) Tryd.underlying3 Tryd.underlying22 rfl rfl) (.inr rfl) rfl rfl ?_
 refine D_one 10 _ rfl kr rfl (op_bslice (e := 22) (zs := [(b64 pp), (b64 pr), (b64 pa)]) (qs := [(0, (b64 pp)), (1, (b64 pr)), (2, (b64 pa))]) (fun _ => by kernel_rfl) rfl rfl rfl rfl (fun g4 => ?_))
 refine D_on [1, 2, 3] rfl ?_
 refine D_one 11 _ rfl kr rfl (op_cn (fun w hw => kinfo_f [112#8, 108#8, 97#8, 99#8, 101#8] 5 [pp, pr, pa] (some ⟨g4, 0, none⟩) 3 3 w (hok_cons ((src_full (z := 1) 0 rfl rfl sd sd) w hw) (hok_nil w)) (by first | rfl | (simp; done)) sd sd sd) (enters_of Tryd.func28 kr rfl) rfl rfl kr rfl rfl (fun t5 q6 => ?_))
 obtain ⟨B7, d8⟩ := t5
 refine T_slot 16 (.slice B7 (5 + 8 * 3) d8) (.slice B7 29 d8) rfl (by congr 1) ?_
 refine T_as 0 _ (.old B7 1 29 d8 (([112#8, 108#8, 97#8, 99#8, 101#8] ++ eights [pp, pr, pa]).map b8)) rfl rfl ?_
 refine D_on [2, 3, 4] rfl ?_
 refine D_one 12 _ rfl kr rfl (op_cn (fun w hw => key_f [] none 0 0 job (some ⟨g1, 0, none⟩) 32 32 ([112#8, 108#8, 97#8, 99#8, 101#8] ++ eights [pp, pr, pa]) B7 29 d8 w (hok_cons ((src_nil 1) w hw) (hok_cons ((src_full (z := 1) 4 rfl sd sd sd) w hw) (hok_cons ((src_old 0 rfl) w hw) (hok_nil w)))) (by first | assumption | omega | (simp; done) | (simp; omega)) sd (by first | assumption | omega | (simp; done) | (simp; omega)) sd hil sd) (enters_of Tryd.func33 kr rfl) rfl rfl rfl rfl rfl (fun t9 q10 => ?_))
 refine T_slot 17 _ (.agg ((kof job ([112#8, 108#8, 97#8, 99#8, 101#8] ++ eights [pp, pr, pa])).map b8).toArray) rfl (by rw [kof_def]) ?_
 refine D_on [2, 3, 4] rfl ?_
 refine D_one 13 _ rfl kr rfl (op_sto (n := 32) (vs := ((kof job ([112#8, 108#8, 97#8, 99#8, 101#8] ++ eights [pp, pr, pa])).map b8)) 2 rfl rfl kr (all8_one _) kr sd rfl rfl rfl rfl ?_)
 refine D_past kr ?_
 refine D_done kr ?_
 refine T_ret ?_
 exact T_fin () (by first | trivial | omega | (simp; done)) (resb 0 rfl rfl rfl Tryd.underlying34 rfl (fwz (n := 32) kr sd)) [] ⟨by decide, rfl⟩ rfl
set_option maxHeartbeats 4000000 in
theorem ksender_f (job : List (BitVec 8)) (fr : BitVec 64) (start : BitVec 64) (w : World) (hO : HOK [] w) (hj : job.length = 32) : Calls Tryd.prog 16 [(.agg (job.map b8).toArray), (.int .i64 (i64 fr)), (b64 start)].toArray w (Ret (T := Unit) [] w (fun _ => True) (fun _ => (.agg ((kof job ([115#8, 101#8, 110#8, 100#8, 101#8, 114#8] ++ eights [fr, start])).map b8).toArray)) (fun _ => [])) := by
 have hil : (([115#8, 101#8, 110#8, 100#8, 101#8, 114#8] ++ eights [fr, start])).length = 22 := by rw [List.length_append, eights_two]; rfl
 have hkl := kof_len job ([115#8, 101#8, 110#8, 100#8, 101#8, 114#8] ++ eights [fr, start])
 have hF : Wid Fence.wide := wid_wide
 refine enter (c := _) Tryd.func16 rfl [] _ [] (by rw [Tryd.ntmps16]; rfl) (own_rds hO rfl) ?_
 rw [Tryd.ntmps16]
 refine T_re [(0, (.agg (job.map b8).toArray)), (1, (.int .i64 (i64 fr))), (2, (b64 start))] (sc rfl (sc rfl (sc rfl sn))) ?_
 refine T_he [] [] ⟨by decide, rfl⟩ ?_
 refine Tsr hF rfl ?_
 refine L_op rfl (op_box (zs := (job.map b8)) rfl rfl rfl rfl rfl (fun g1 => ?_))
 refine L_op rfl (op_alloc (z := .agg ((List.replicate 32 0#8).map b8).toArray) (zs := ((List.replicate 32 0#8).map b8)) kr rfl rfl rfl rfl (fun g2 => ?_))
 refine L_nil ?_
 refine T_seq ?_
 refine T_regD [.blk g2 34 ((List.replicate 32 0#8).map b8), .blk g1 34 (job.map b8)] 7 8 #[false, false, false, false, false, false, false, false] hF kr kr ?_
 refine D_pure (i := 0) [0, 1] rfl kr rfl (pr_sla (l := 0) (u := 32) (m := 0) sd sd sd rfl Tryd.underlying34 (z := 1) kr rfl rfl rfl rfl) (.inr rfl) rfl rfl ?_
 refine D_pure (i := 1) [0, 1] rfl kr rfl (pr_move rfl rfl) (.inr rfl) rfl rfl ?_
 refine D_pure (i := 2) [0, 1] rfl kr rfl (pr_cv (zc_i64u fr) Tryd.underlying3 Tryd.underlying22 rfl rfl) (.inr rfl) rfl rfl ?_
 refine D_pure (i := 3) [0, 1] rfl kr rfl (pr_move rfl rfl) (.inr rfl) rfl rfl ?_
 refine D_one 4 _ rfl kr rfl (op_bslice (e := 22) (zs := [(b64 fr), (b64 start)]) (qs := [(0, (b64 fr)), (1, (b64 start))]) (fun _ => by kernel_rfl) rfl rfl rfl rfl (fun g3 => ?_))
 refine D_on [1, 2] rfl ?_
 refine D_one 5 _ rfl kr rfl (op_cn (fun w hw => kinfo_f [115#8, 101#8, 110#8, 100#8, 101#8, 114#8] 6 [fr, start] (some ⟨g3, 0, none⟩) 2 2 w (hok_cons ((src_full (z := 1) 0 rfl rfl sd sd) w hw) (hok_nil w)) (by first | rfl | (simp; done)) sd sd sd) (enters_of Tryd.func28 kr rfl) rfl rfl kr rfl rfl (fun t4 q5 => ?_))
 obtain ⟨B6, d7⟩ := t4
 refine T_slot 12 (.slice B6 (6 + 8 * 2) d7) (.slice B6 22 d7) rfl (by congr 1) ?_
 refine T_as 0 _ (.old B6 1 22 d7 (([115#8, 101#8, 110#8, 100#8, 101#8, 114#8] ++ eights [fr, start]).map b8)) rfl rfl ?_
 refine D_on [2, 3] rfl ?_
 refine D_one 6 _ rfl kr rfl (op_cn (fun w hw => key_f [] none 0 0 job (some ⟨g1, 0, none⟩) 32 32 ([115#8, 101#8, 110#8, 100#8, 101#8, 114#8] ++ eights [fr, start]) B6 22 d7 w (hok_cons ((src_nil 1) w hw) (hok_cons ((src_full (z := 1) 3 rfl sd sd sd) w hw) (hok_cons ((src_old 0 rfl) w hw) (hok_nil w)))) (by first | assumption | omega | (simp; done) | (simp; omega)) sd (by first | assumption | omega | (simp; done) | (simp; omega)) sd hil sd) (enters_of Tryd.func33 kr rfl) rfl rfl rfl rfl rfl (fun t8 q9 => ?_))
 refine T_slot 13 _ (.agg ((kof job ([115#8, 101#8, 110#8, 100#8, 101#8, 114#8] ++ eights [fr, start])).map b8).toArray) rfl (by rw [kof_def]) ?_
 refine D_on [2, 3] rfl ?_
 refine D_one 7 _ rfl kr rfl (op_sto (n := 32) (vs := ((kof job ([115#8, 101#8, 110#8, 100#8, 101#8, 114#8] ++ eights [fr, start])).map b8)) 2 rfl rfl kr (all8_one _) kr sd rfl rfl rfl rfl ?_)
 refine D_past kr ?_
 refine D_done kr ?_
 refine T_ret ?_
 exact T_fin () (by first | trivial | omega | (simp; done)) (resb 0 rfl rfl rfl Tryd.underlying34 rfl (fwz (n := 32) kr sd)) [] ⟨by decide, rfl⟩ rfl
set_option maxHeartbeats 4000000 in
theorem knonce_f (a : BitVec 64) (i : BitVec 64) (w : World) (hO : HOK [] w)  : Calls Tryd.prog 11 [(b64 a), (.int .i64 (i64 i))].toArray w (Ret (T := Unit) [] w (fun _ => True) (fun _ => (.agg ((nonc a i).map b8).toArray)) (fun _ => [])) := by
 have hnl := nonc_len a i
 have hnl2 : (lowb a 8 ++ lowb i 4).length = 12 := by rw [List.length_append, lowb_len, lowb_len]
 have hF : Wid Fence.wide := wid_wide
 refine enter (c := _) Tryd.func11 rfl [] _ [] (by rw [Tryd.ntmps11]; rfl) (own_rds hO rfl) ?_
 rw [Tryd.ntmps11]
 refine T_re [(0, (b64 a)), (1, (.int .i64 (i64 i)))] (sc rfl (sc rfl sn)) ?_
 refine T_he [] [] ⟨by decide, rfl⟩ ?_
 refine Tsr hF rfl ?_
 refine L_op rfl (op_alloc (z := .agg ((List.replicate 12 0#8).map b8).toArray) (zs := ((List.replicate 12 0#8).map b8)) kr rfl rfl rfl rfl (fun g1 => ?_))
 refine L_nil ?_
 refine Tsr hF rfl ?_
 refine lm rfl rfl rfl rfl rfl ?_
 refine L_op rfl (op_bslice (e := 22) (zs := [(b64 a)]) (qs := [(0, (b64 a))]) (fun _ => by kernel_rfl) rfl rfl rfl rfl (fun g2 => ?_))
 refine L_op rfl (op_cn (fun w hw => eights_f [a] (some ⟨g2, 0, none⟩) 1 1 w (hok_cons ((src_full (z := 1) 0 rfl rfl sd sd) w hw) (hok_nil w)) (by first | rfl | assumption | omega | (simp; done) | (simp; omega)) sd) (enters_of Tryd.func30 kr rfl) rfl rfl rfl rfl rfl (fun t3 q4 => ?_))
 obtain ⟨B5, d6⟩ := t3
 refine T_slot 7 (.slice B5 (8 * 1) d6) (.slice B5 8 d6) rfl (by congr 1) ?_
 refine T_as 0 _ (.row (.slice B5 8 d6) 5 1 8 ((lowb a 8).map b8)) rfl (by first | (rw [eib_one]; done) | (rw [eib_one]; rfl)) ?_
 refine lm rfl rfl rfl rfl rfl ?_
 refine lo rfl (pr_cv (zc_i64u i) Tryd.underlying3 Tryd.underlying22 rfl rfl) rfl rfl ?_
 refine L_op rfl (op_c1 0 rfl (fun w hw => putLow_f (lowb a 8) i 4 B5 8 d6 w (hw _ (List.mem_of_getElem? (i := 0) rfl)) sd sd) (enters_of Tryd.func29 kr rfl) rfl rfl rfl rfl rfl (fun t7 q8 => ?_))
 obtain ⟨B9, d10⟩ := t7
 refine T_slot 10 (.slice B9 (8 + 4) d10) (.slice B9 12 d10) rfl (by congr 1) ?_
 refine T_as 0 _ (.row (.slice B9 12 d10) 5 1 12 (((lowb a 8) ++ lowb i 4).map b8)) rfl rfl ?_
 refine lo rfl (pr_s2a sd Tryd.underlying31 rfl rfl) rfl rfl ?_
 refine lq rfl (ld_aggs (ds := (((lowb a 8) ++ lowb i 4).map b8)) (src_row 0 rfl) (List.take_length) (by have h1 : ((((lowb a 8) ++ lowb i 4).map b8)).length = 12 := sd; omega) Tryd.underlying31 rfl (fwz (n := 12) kr sd) rfl rfl) rfl rfl ?_
 refine T_slot 12 (.agg (((lowb a 8) ++ lowb i 4).map b8).toArray) (.agg ((nonc a i).map b8).toArray) rfl (by rw [nonc_def]) ?_
 refine L_op rfl (op_sto (n := 12) (vs := ((nonc a i).map b8)) 2 rfl rfl kr (all8_one _) kr sd rfl rfl rfl rfl ?_)
 refine L_nil ?_
 refine T_ret ?_
 exact T_fin () (by first | trivial | omega | (simp; done)) (resb 0 rfl rfl rfl Tryd.underlying31 rfl (fwz (n := 12) kr sd)) [] ⟨by decide, rfl⟩ rfl
set_option maxHeartbeats 4000000 in
theorem kaad_f (pp : BitVec 64) (pr : BitVec 64) (pa : BitVec 64) (pt : BitVec 64) (pi : BitVec 64) (sz : Nat) (w : World) (hO : HOK [] w) (hsz : sz ≤ 100000000) : Calls Tryd.prog 10 [(.agg [(.int .i64 (i64 pp)), (.int .i64 (i64 pr)), (.int .i64 (i64 pa)), (b64 pt), (.int .i64 (i64 pi))].toArray), (.int .i64 ((sz : Nat) : Int))].toArray w (Ret (T := Option Addr × Nat) [] w (fun ⟨B, d⟩ => True) (fun ⟨B, d⟩ => (.slice B 48 d)) (fun ⟨B, d⟩ => [.old B 1 48 d ((eights [pp, pr, pa, pt, pi, (BitVec.ofNat 64 sz)]).map b8)])) := by
 have hF : Wid Fence.wide := wid_wide
 refine enter (c := _) Tryd.func10 rfl [] _ [] (by rw [Tryd.ntmps10]; rfl) (own_rds hO rfl) ?_
 rw [Tryd.ntmps10]
 refine T_re [(0, (.agg [(.int .i64 (i64 pp)), (.int .i64 (i64 pr)), (.int .i64 (i64 pa)), (b64 pt), (.int .i64 (i64 pi))].toArray)), (1, (.int .i64 ((sz : Nat) : Int)))] (sc rfl (sc rfl sn)) ?_
 refine T_he [] [] ⟨by decide, rfl⟩ ?_
 refine Tsr hF rfl ?_
 refine L_op rfl (op_box (zs := [(.int .i64 (i64 pp)), (.int .i64 (i64 pr)), (.int .i64 (i64 pa)), (b64 pt), (.int .i64 (i64 pi))]) rfl rfl rfl rfl rfl (fun g1 => ?_))
 refine la rfl rfl rfl rfl rfl ?_
 refine L_nil ?_
 refine Tsr hF rfl ?_
 refine lo rfl (pr_fa (m := 0) (m' := 0) (z := 0) (by rfl) Tryd.underlying24 rfl kr rfl rfl) rfl rfl ?_
 refine lq rfl (ld_blk 0 rfl rfl Tryd.underlying3 rfl rfl rfl) rfl rfl ?_
 refine lo rfl (pr_cv (zc_i64u pp) Tryd.underlying3 Tryd.underlying22 rfl rfl) rfl rfl ?_
 refine lo rfl (pr_fa (m := 0) (m' := 1) (z := 0) (by rfl) Tryd.underlying24 rfl kr rfl rfl) rfl rfl ?_
 refine lq rfl (ld_blk 0 rfl rfl Tryd.underlying3 rfl rfl rfl) rfl rfl ?_
 refine lo rfl (pr_cv (zc_i64u pr) Tryd.underlying3 Tryd.underlying22 rfl rfl) rfl rfl ?_
 refine lo rfl (pr_fa (m := 0) (m' := 2) (z := 0) (by rfl) Tryd.underlying24 rfl kr rfl rfl) rfl rfl ?_
 refine lq rfl (ld_blk 0 rfl rfl Tryd.underlying3 rfl rfl rfl) rfl rfl ?_
 refine lo rfl (pr_cv (zc_i64u pa) Tryd.underlying3 Tryd.underlying22 rfl rfl) rfl rfl ?_
 refine lo rfl (pr_fa (m := 0) (m' := 3) (z := 0) (by rfl) Tryd.underlying24 rfl kr rfl rfl) rfl rfl ?_
 refine lq rfl (ld_blk 0 rfl rfl Tryd.underlying22 rfl rfl rfl) rfl rfl ?_
 refine lo rfl (pr_fa (m := 0) (m' := 4) (z := 0) (by rfl) Tryd.underlying24 rfl kr rfl rfl) rfl rfl ?_
 refine lq rfl (ld_blk 0 rfl rfl Tryd.underlying3 rfl rfl rfl) rfl rfl ?_
 refine lo rfl (pr_cv (zc_i64u pi) Tryd.underlying3 Tryd.underlying22 rfl rfl) rfl rfl ?_
 refine lm rfl rfl rfl rfl rfl ?_
 refine lo rfl (pr_cv (nw64 sz) Tryd.underlying3 Tryd.underlying22 rfl rfl) rfl rfl ?_
 refine L_op rfl (op_bslice (e := 22) (zs := [(b64 pp), (b64 pr), (b64 pa), (b64 pt), (b64 pi), (b64 (BitVec.ofNat 64 sz))]) (qs := [(0, (b64 pp)), (1, (b64 pr)), (2, (b64 pa)), (3, (b64 pt)), (4, (b64 pi)), (5, (b64 (BitVec.ofNat 64 sz)))]) (fun _ => by kernel_rfl) rfl rfl rfl rfl (fun g2 => ?_))
 refine L_op rfl (op_cn (fun w hw => kinfo_f [] 0 [pp, pr, pa, pt, pi, (BitVec.ofNat 64 sz)] (some ⟨g2, 0, none⟩) 6 6 w (hok_cons ((src_full (z := 1) 0 rfl rfl sd sd) w hw) (hok_nil w)) (by first | rfl | (simp; done)) sd sd sd) (enters_of Tryd.func28 kr rfl) rfl rfl kr rfl rfl (fun t3 q4 => ?_))
 obtain ⟨B5, d6⟩ := t3
 refine T_slot 22 (.slice B5 (0 + 8 * 6) d6) (.slice B5 48 d6) rfl (by congr 1) ?_
 refine T_as 0 _ (.old B5 1 48 d6 ((eights [pp, pr, pa, pt, pi, (BitVec.ofNat 64 sz)]).map b8)) rfl rfl ?_
 refine la rfl rfl rfl rfl rfl ?_
 refine L_nil ?_
 refine T_ret ?_
 exact T_fin (B5, d6) (by first | trivial | omega | (simp; done)) (res1 rfl rfl) [0] ⟨by decide, rfl⟩ rfl
set_option maxHeartbeats 4000000 in
theorem kaadz_f (pp : BitVec 64) (pr : BitVec 64) (pa : BitVec 64) (pt : BitVec 64) (pi : BitVec 64) (sz : BitVec 64) (w : World) (hO : HOK [] w)  : Calls Tryd.prog 10 [(.agg [(.int .i64 (i64 pp)), (.int .i64 (i64 pr)), (.int .i64 (i64 pa)), (b64 pt), (.int .i64 (i64 pi))].toArray), (.int .i64 (i64 sz))].toArray w (Ret (T := Option Addr × Nat) [] w (fun ⟨B, d⟩ => True) (fun ⟨B, d⟩ => (.slice B 48 d)) (fun ⟨B, d⟩ => [.old B 1 48 d ((eights [pp, pr, pa, pt, pi, sz]).map b8)])) := by
 have hF : Wid Fence.wide := wid_wide
 refine enter (c := _) Tryd.func10 rfl [] _ [] (by rw [Tryd.ntmps10]; rfl) (own_rds hO rfl) ?_
 rw [Tryd.ntmps10]
 refine T_re [(0, (.agg [(.int .i64 (i64 pp)), (.int .i64 (i64 pr)), (.int .i64 (i64 pa)), (b64 pt), (.int .i64 (i64 pi))].toArray)), (1, (.int .i64 (i64 sz)))] (sc rfl (sc rfl sn)) ?_
 refine T_he [] [] ⟨by decide, rfl⟩ ?_
 refine Tsr hF rfl ?_
 refine L_op rfl (op_box (zs := [(.int .i64 (i64 pp)), (.int .i64 (i64 pr)), (.int .i64 (i64 pa)), (b64 pt), (.int .i64 (i64 pi))]) rfl rfl rfl rfl rfl (fun g1 => ?_))
 refine la rfl rfl rfl rfl rfl ?_
 refine L_nil ?_
 refine Tsr hF rfl ?_
 refine lo rfl (pr_fa (m := 0) (m' := 0) (z := 0) (by rfl) Tryd.underlying24 rfl kr rfl rfl) rfl rfl ?_
 refine lq rfl (ld_blk 0 rfl rfl Tryd.underlying3 rfl rfl rfl) rfl rfl ?_
 refine lo rfl (pr_cv (zc_i64u pp) Tryd.underlying3 Tryd.underlying22 rfl rfl) rfl rfl ?_
 refine lo rfl (pr_fa (m := 0) (m' := 1) (z := 0) (by rfl) Tryd.underlying24 rfl kr rfl rfl) rfl rfl ?_
 refine lq rfl (ld_blk 0 rfl rfl Tryd.underlying3 rfl rfl rfl) rfl rfl ?_
 refine lo rfl (pr_cv (zc_i64u pr) Tryd.underlying3 Tryd.underlying22 rfl rfl) rfl rfl ?_
 refine lo rfl (pr_fa (m := 0) (m' := 2) (z := 0) (by rfl) Tryd.underlying24 rfl kr rfl rfl) rfl rfl ?_
 refine lq rfl (ld_blk 0 rfl rfl Tryd.underlying3 rfl rfl rfl) rfl rfl ?_
 refine lo rfl (pr_cv (zc_i64u pa) Tryd.underlying3 Tryd.underlying22 rfl rfl) rfl rfl ?_
 refine lo rfl (pr_fa (m := 0) (m' := 3) (z := 0) (by rfl) Tryd.underlying24 rfl kr rfl rfl) rfl rfl ?_
 refine lq rfl (ld_blk 0 rfl rfl Tryd.underlying22 rfl rfl rfl) rfl rfl ?_
 refine lo rfl (pr_fa (m := 0) (m' := 4) (z := 0) (by rfl) Tryd.underlying24 rfl kr rfl rfl) rfl rfl ?_
 refine lq rfl (ld_blk 0 rfl rfl Tryd.underlying3 rfl rfl rfl) rfl rfl ?_
 refine lo rfl (pr_cv (zc_i64u pi) Tryd.underlying3 Tryd.underlying22 rfl rfl) rfl rfl ?_
 refine lm rfl rfl rfl rfl rfl ?_
 refine lo rfl (pr_cv (zc_i64u sz) Tryd.underlying3 Tryd.underlying22 rfl rfl) rfl rfl ?_
 refine L_op rfl (op_bslice (e := 22) (zs := [(b64 pp), (b64 pr), (b64 pa), (b64 pt), (b64 pi), (b64 sz)]) (qs := [(0, (b64 pp)), (1, (b64 pr)), (2, (b64 pa)), (3, (b64 pt)), (4, (b64 pi)), (5, (b64 sz))]) (fun _ => by kernel_rfl) rfl rfl rfl rfl (fun g2 => ?_))
 refine L_op rfl (op_cn (fun w hw => kinfo_f [] 0 [pp, pr, pa, pt, pi, sz] (some ⟨g2, 0, none⟩) 6 6 w (hok_cons ((src_full (z := 1) 0 rfl rfl sd sd) w hw) (hok_nil w)) (by first | rfl | (simp; done)) sd sd sd) (enters_of Tryd.func28 kr rfl) rfl rfl kr rfl rfl (fun t3 q4 => ?_))
 obtain ⟨B5, d6⟩ := t3
 refine T_slot 22 (.slice B5 (0 + 8 * 6) d6) (.slice B5 48 d6) rfl (by congr 1) ?_
 refine T_as 0 _ (.old B5 1 48 d6 ((eights [pp, pr, pa, pt, pi, sz]).map b8)) rfl rfl ?_
 refine la rfl rfl rfl rfl rfl ?_
 refine L_nil ?_
 refine T_ret ?_
 exact T_fin (B5, d6) (by first | trivial | omega | (simp; done)) (res1 rfl rfl) [0] ⟨by decide, rfl⟩ rfl
end Go.Proofs.YtlplpmkdebemnaaDoor
namespace Go.Proofs.YtlplpmkdebemnaaDoor.Fw
set_option linter.unusedVariables false
set_option linter.unusedSimpArgs false
open Go.RowKit Bv
/-- A text as a cell; a text among others. -/
abbrev bst (xs : List (BitVec 8)) : Value := .string (sob xs)
def sat (xss : List (List (BitVec 8))) (k : Nat) : List (BitVec 8) := xss.getD k []
theorem getS {xss : List (List (BitVec 8))} {k : Nat} (h : k < xss.length) : (xss.map bst)[k]? = some (.string (sob (sat xss k))) := by
  unfold sat
  rw [List.getElem?_map, List.getD_eq_getElem?_getD, List.getElem?_eq_getElem h]; rfl
theorem sob_app (xs ys : List (BitVec 8)) : sob xs ++ sob ys = sob (xs ++ ys) := by
  apply ba_inj
  rw [ByteArray.data_append]
  simp [sob]
section
variable {P : Program} {X : Cx} {s : List (Nat × Value)} {h : List HA} {o : Oper} {K K0 J : Jd}
theorem pr_stradd {t t2 : TypeId} {x y : Operand} {xs ys : List (BitVec 8)} (hl : xs.length + ys.length ≤ 9223372036854775807) (ho : o.op = .binOp .add t x y t2) (hx : ev s x = some (.string (sob xs))) (hy : ev s y = some (.string (sob ys))) : Pr P s h o (.string (sob (xs ++ ys))) := fun e he w hw w' => by
  have hs := run_string_add_sum (P := P) (w := w') (sob xs) (sob ys) (by rw [sob_size, sob_size]; exact hl)
  unfold execOp; rw [ho]
  simp only [he _ _ hx, he _ _ hy]
  have hg : (eqGuard .add t x y (.string (sob xs)) (.string (sob ys))).run P w' = .ok () w' := by unfold eqGuard; simp
  rw [Sem.run_bind, Sem.run_bind, hg]
  simp only [binOp, Result.andThen_ok, hs, sob_app]
  rfl
theorem pr_quou {t t2 : TypeId} {x y : Operand} {a b : Nat} (hb : 0 < b) (ha : (a : Int) ≤ 18446744073709551615) (ho : o.op = .binOp .quo t x y t2) (hx : ev s x = some (.int .u64 (a : Int))) (hy : ev s y = some (.int .u64 (b : Int))) : Pr P s h o (.int .u64 ((a / b : Nat) : Int)) :=
  pr_bin ho hx hy (fun w => by
    have h1 : ¬ (b : Int) = 0 := by omega
    have h2 : (a : Int).tdiv b = ((a / b : Nat) : Int) := by rw [Int.tdiv_eq_ediv_of_nonneg (by omega)]; simp
    have h3 : IntKind.u64.wrap ((a / b : Nat) : Int) = ((a / b : Nat) : Int) := by
      have h4 : a / b ≤ a := Nat.div_le_self a b
      generalize a / b = q at h4 ⊢
      rw [IntKind.wrap_u64]; omega
    simp only [binOp, Op.intDiv, h1, if_false, h2, h3, ne_eq, not_true_eq_false]
    rfl)
theorem un_negz {z : Int} (h : -9223372036854775807 ≤ z ∧ z ≤ 9223372036854775807) : Op.unary .neg (.int .i64 z) = pure (.int .i64 (-z)) := by
  show Op.intArith .sub .i64 0 z = _
  unfold Op.intArith
  have : IntKind.i64.wrap (0 - z) = -z := by rw [IntKind.wrap_i64]; omega
  simp only [this]
/-- A call whose contract asks something of the first world that no block of ours changes. -/
theorem op_cnK {T : Type} {q : T → Prop} {res : T → Value} {hs : T → List HA} {f : FuncId} {c : Operand} {xs : List Operand} {ts : Array TypeId} {vs : List Value} {d : Nat} (hcon0 : ∀ w, HOK h w → Keep X.C X.w0 w → Calls P f vs.toArray w (Ret [] w q res hs)) (hf : Go.Proofs.Enters P f)
    (ho : o.op = .call { callee := .value c, args := xs.toArray, argTypes := ts }) (hc : ev s c = some (.func (.func f) #[] #[])) (hx : xs.map (ev s) = vs.map some) (hd : o.dst = some d) (hN : Nat.blt d X.N = true) (hh : ∀ t, q t → Tr X ((d, res t) :: s) (hs t ++ h) K) : Tr X s h (Op P o K K0) := fun a w st => by
  have hcon : ∀ w, HOK h w → Keep X.C X.w0 w → Calls P f (vs ++ []).toArray w (Ret [] w q res hs) := by simpa using hcon0
  unfold Op Oper.wp
  rw [run_calls (cap := []) st.ag hf ho hc hx w, Oper.upon_enter]
  refine (hcon w st.ok st.kp).mono fun e w' he => ?_
  obtain ⟨t, hq, rfl, hpo⟩ := he
  simp only
  rw [hd]
  exact hh t hq _ _ (st.swapv [] h (hs t) (List.Perm.refl _) hN _ hpo.kp hpo.ok hpo.fr hpo.nd hpo.rd hpo.os)
/-- append onto a full row that is only read: a new block. -/
theorem op_app_old {d : Nat} {t e : TypeId} {x y : Operand} {A A2 : Option Addr} {n m c c2 : Nat} {zs news : List (BitVec 8)} (hs1 : Src h A 1 n c (zs.map b8)) (hnz : 0 < n) (hfull : c < n + m) (ht : P.underlying t = some (.slice e)) (hin : (P.info? e).map (fun i => (i.zero, i.size, i.bytes)) = some (some (.int .u8 0), 1, 1))
    (hs : Src h A2 1 m c2 (news.map b8)) (hmz : 0 < m) (hb : n + m ≤ 100000000000000)
    (ho : o.op = .call { callee := .builtin .append, args := #[x, y], argTypes := #[t, t] }) (hx : ev s x = some (.slice A n c)) (hy : ev s y = some (.slice A2 m c2)) (hd : o.dst = some d) (hN : Nat.blt d X.N = true)
    (hh : ∀ A' c', Tr X ((d, .slice A' (n + m) c') :: s) (.row (.slice A' (n + m) c') e 1 (n + m) ((zs ++ news).map b8) :: h) K) : Tr X s h (Op P o K K0) := fun a w st => by
  have hr1 := (hs1 w st.ok).1
  have hrd := (hs w st.ok).1
  have hzl : zs.length = n := by have := hr1.len; simpa using this
  have hnl2 : news.length = m := by have := hrd.len; simpa using this
  obtain ⟨ti, hi1, hi2⟩ := Option.map_eq_some_iff.1 hin
  simp only [Prod.mk.injEq] at hi2
  obtain ⟨hz, hsize, hby⟩ := hi2
  cases A with
  | none => have h1 := hr1.isn rfl; have h2 := hr1.le; omega
  | some ad1 =>
  cases A2 with
  | none => have h1 := hrd.isn rfl; have h2 := hrd.le; omega
  | some ad =>
  have hgrow := grownCap_ge w (n + m) c e
  have hmost := grownCap_le_maxLen w (n + m) c e (by unfold maxLen; omega)
  have h9 := run_append_grow (P := P) w t o.type e ti _ ht hi1 hz ad1 n c (zs.map b8) (by rw [hsize, List.length_map, hzl, Nat.mul_one]) (fun j v hj => hr1.cells ad1 rfl j v hj) ad m c2 (news.map b8) (by rw [hsize, List.length_map, hnl2, Nat.mul_one]) (fun j u hu => hrd.cells ad rfl j u hu) (by omega) (by omega) (by rw [hby]; exact growslice_fits (by omega) (by omega))
  have hr : (execOp a.eval o).run P w = .ok (.value (.slice (some ⟨w.heap.size, 0, none⟩) (n + m) (grownCap w (n + m) c e))) (w.drew.alloc (.cells ((zs.map b8).toArray ++ (news.map b8).toArray ++ Builtin.zeroCells (Value.int .u8 0).cells (grownCap w (n + m) c e - (n + m))) e)) := by
    unfold execOp
    rw [ho]
    simp [resolve, invoke, builtin, st.ag _ _ hx, st.ag _ _ hy, h9]
  have hzc : (Builtin.zeroCells (Value.int .u8 0).cells (grownCap w (n + m) c e - (n + m))).size = grownCap w (n + m) c e - (n + m) := by
    simp [Builtin.zeroCells, Value.cells]
  generalize hcs : ((zs.map b8).toArray ++ (news.map b8).toArray ++ Builtin.zeroCells (Value.int .u8 0).cells (grownCap w (n + m) c e - (n + m))) = cs at hr
  have hsz : cs.size = grownCap w (n + m) c e := by
    rw [← hcs, Array.size_append, hzc]; simp [hzl, hnl2]; omega
  have htk : cs.toList.take (n + m) = (zs ++ news).map b8 := by
    rw [← hcs, Array.toList_append, List.take_append_of_le_length (by simp [hzl, hnl2]), List.take_of_length_le (by simp [hzl, hnl2])]; simp
  refine op_val hr ?_
  rw [hd]
  have hnew : (w.drew.alloc (.cells cs e)).heap[w.heap.size]? = some (.cells cs e (0, 0)) := heap_alloc_new w.drew (.cells cs e)
  refine hh _ _ _ _ (st.swapv [] h [.row (.slice (some ⟨w.heap.size, 0, none⟩) (n + m) (grownCap w (n + m) c e)) e 1 (n + m) ((zs ++ news).map b8)] (List.Perm.refl _) hN _ ⟨⟨rfl, rfl, rfl, by rw [World.size_alloc]; exact Nat.le_succ _⟩, fun k hk _ => Below.heap_alloc w.drew _ _ hk⟩ ?_ ?_ ?_ ?_)
  · intro x hx; rw [List.mem_singleton] at hx; subst hx
    exact ⟨by simp [hzl, hnl2], .inr ⟨w.heap.size, grownCap w (n + m) c e, cs, rfl, Nat.zero_le _, hnew, hgrow, hmost, by rw [hsz, Nat.mul_one], by rw [Nat.mul_one]; exact htk⟩⟩
  · intro x hx k hk; rw [List.mem_singleton] at hx; subst hx; simp [HA.frs, Value.ownBlock] at hk; subst hk; exact .inr (Nat.le_refl _)
  · simp [HA.ids, Value.ownBlock]
  · intro x hx r hr; rw [List.mem_singleton] at hx; subst hx; cases hr
end
end Go.Proofs.YtlplpmkdebemnaaDoor.Fw
namespace Go.Proofs.YtlplpmkdebemnaaDoor
set_option linter.unusedVariables false
set_option linter.unusedSimpArgs false
set_option linter.unnecessarySimpa false
set_option maxRecDepth 100000
open Go.RowKit Bv Fw

theorem decb_len_le : ∀ (k u : Nat), u < 10 ^ k → (decb u).length ≤ k + 1
  | 0, u, h => by
    rw [decb_small (by simp at h; omega)]; simp
  | k + 1, u, h => by
    by_cases h10 : u < 10
    · rw [decb_small h10]; simp
    · rw [decb_big h10, List.length_append]
      have := decb_len_le k (u / 10) (by rw [Nat.pow_succ] at h; omega)
      simp only [List.length_singleton]; omega
theorem decb_le (u : BitVec 64) : (decb u.toNat).length ≤ 21 := decb_len_le 20 u.toNat (by have := u.isLt; omega)
theorem i64_rng (x : BitVec 64) : -9223372036854775808 ≤ i64 x ∧ i64 x ≤ 9223372036854775807 := by
  unfold i64
  have h1 := BitVec.le_toInt x
  have h2 := BitVec.toInt_lt (x := x)
  omega
theorem itob_le (x : BitVec 64) : (itob (i64 x)).length ≤ 22 := by
  have hr := i64_rng x
  by_cases h : i64 x < 0
  · rw [itob_neg h, List.length_cons]
    have := decb_len_le 20 (i64 x).natAbs (by omega)
    omega
  · rw [itob_pos h]
    have := decb_len_le 20 (i64 x).toNat (by omega)
    omega
theorem num_neg (x : BitVec 64) (h : i64 x < 0) : (BitVec.ofInt 64 (-(i64 x + ((1 : Nat) : Int))) + 1#64).toNat = (i64 x).natAbs := by
  have hr := i64_rng x
  obtain ⟨m, hm⟩ : ∃ m : Nat, -(i64 x + ((1 : Nat) : Int)) = (m : Int) := ⟨(-(i64 x + 1)).toNat, by omega⟩
  rw [hm, BitVec.toNat_add, BitVec.ofInt_natCast, BitVec.toNat_ofNat]
  have : (1#64).toNat = 1 := rfl
  omega
theorem num_pos (x : BitVec 64) (h : ¬ i64 x < 0) : x.toNat = (i64 x).toNat := by
  unfold i64 at *
  rw [BitVec.toInt_eq_toNat_cond] at *
  split at h <;> split <;> omega
theorem dig_small (v : BitVec 64) (h : v < 10#64) : [(48#64 + v).setWidth 8] = decb v.toNat := by
  rw [BitVec.lt_def] at h
  have h10 : (10#64).toNat = 10 := rfl
  rw [decb_small (by omega)]
  congr 1
  apply BitVec.eq_of_toNat_eq
  simp only [BitVec.toNat_setWidth, BitVec.toNat_add, BitVec.toNat_ofNat]
  omega
theorem dig_lt (v : BitVec 64) (h : ¬ v < 10#64) : (BitVec.ofNat 64 (v.toNat / 10)).toNat < v.toNat := by
  rw [BitVec.lt_def] at h
  have h10 : (10#64).toNat = 10 := rfl
  rw [BitVec.toNat_ofNat]; omega
theorem dig_big (v : BitVec 64) (h : ¬ v < 10#64) : decb (BitVec.ofNat 64 (v.toNat / 10)).toNat ++ [BitVec.ofNat 8 (48 + v.toNat % 10)] = decb v.toNat := by
  rw [BitVec.lt_def] at h
  have h10 : (10#64).toNat = 10 := rfl
  have hv := v.isLt
  rw [decb_big (u := v.toNat) (by omega), BitVec.toNat_ofNat, Nat.mod_eq_of_lt (by omega)]

theorem itoa_f (x : BitVec 64) (w : World) (hO : HOK [] w) (htab : Tab w) : Calls Tryd.prog 26 [.int .i64 (i64 x)].toArray w (Ret (T := Unit) [] w (fun _ => True) (fun _ => .string (sob (itob (i64 x)))) (fun _ => [])) := itoa_c (i64 x) w (i64_rng x).1 (i64_rng x).2 htab
theorem ifuint_f (u : BitVec 64) (w : World) (hO : HOK [] w) (htab : Tab w) : Calls Tryd.prog 37 [b64 u, .int .i64 ((10 : Nat) : Int)].toArray w (Ret (T := Unit) [] w (fun _ => True) (fun _ => .string (sob (decb u.toNat))) (fun _ => [])) := fuint_c u w htab

set_option maxHeartbeats 4000000 in
theorem fuint_f (u : BitVec 64) (w : World) (hO : HOK [] w) (htab : Tab w) : Calls Tryd.prog 25 [(b64 u), (.int .i64 ((10 : Nat) : Int))].toArray w (Ret (T := Unit) [] w (fun _ => True) (fun _ => (.string (sob (decb u.toNat)))) (fun _ => [])) := by
 have hF : Wid Fence.wide := wid_wide
 refine enter (c := _) Tryd.func25 rfl [] _ [] (by rw [Tryd.ntmps25]; rfl) (own_rds hO rfl) ?_
 rw [Tryd.ntmps25]
 refine T_re [(0, (b64 u)), (1, (.int .i64 ((10 : Nat) : Int)))] (sc rfl (sc rfl sn)) ?_
 refine T_he [] [] ⟨by decide, rfl⟩ ?_
 refine Tsr hF rfl ?_
 refine la rfl rfl rfl rfl rfl ?_
 refine L_nil ?_
 refine Tsr hF rfl ?_
 refine lm rfl rfl rfl rfl rfl ?_
 refine lm rfl rfl rfl rfl rfl ?_
 refine L_op rfl (op_cnK (fun w hw kp => ifuint_f u w (hok_nil w) (tab_keep htab kp)) (enters_of Tryd.func37 kr rfl) rfl rfl rfl rfl rfl (fun t1 q2 => ?_))
 refine la rfl rfl rfl rfl rfl ?_
 refine L_nil ?_
 refine T_ret ?_
 exact T_fin () (by first | trivial | omega | (simp; done)) (res1 rfl rfl) [] ⟨by decide, rfl⟩ rfl
set_option maxHeartbeats 4000000 in
theorem digits_step (v : BitVec 64) (w : World) (hO : HOK [] w) (ih : ∀ (u : BitVec 64) (w : World), HOK [] w → u.toNat < v.toNat → Calls Tryd.prog 36 [b64 u].toArray w (Ret (T := Unit) [] w (fun _ => True) (fun _ => .string (sob (decb u.toNat))) (fun _ => []))) : Calls Tryd.prog 36 [(b64 v)].toArray w (Ret (T := Unit) [] w (fun _ => True) (fun _ => (.string (sob (decb v.toNat)))) (fun _ => [])) := by
 have hvl := v.isLt
 have hdl := decb_le (BitVec.ofNat 64 (v.toNat / 10))
 have hF : Wid Fence.wide := wid_wide
 refine enter (c := _) Tryd.func36 rfl [] _ [] (by rw [Tryd.ntmps36]; rfl) (own_rds hO rfl) ?_
 rw [Tryd.ntmps36]
 refine T_re [(0, (b64 v))] (sc rfl sn) ?_
 refine T_he [] [] ⟨by decide, rfl⟩ ?_
 refine Tsr hF rfl ?_
 refine la rfl rfl rfl rfl rfl ?_
 refine L_nil ?_
 refine T_seq ?_
 refine Tsr hF rfl ?_
 refine lm rfl rfl rfl rfl rfl ?_
 refine lo rfl (pr_cmp (bo := .lss) (cm_lt64 v (10#64)) rfl rfl rfl rfl) rfl rfl ?_
 refine L_nil ?_
 refine T_cond (decide (v < 10#64)) rfl (fun hc_1 => ?_) (fun hc_1 => ?_)
 ·
  have hc_1 := of_decide_eq_true hc_1
  refine Tsr hF rfl ?_
  refine lm rfl rfl rfl rfl rfl ?_
  refine lo rfl (pr_add (add64 (48#64) _) rfl rfl rfl) rfl rfl ?_
  refine lo rfl (pr_cv (cv64_8 _) Tryd.underlying22 Tryd.underlying5 rfl rfl) rfl rfl ?_
  refine L_op rfl (op_bslice (e := 5) (zs := [(b8 ((48#64 + v).setWidth 8))]) (qs := [(0, (b8 ((48#64 + v).setWidth 8)))]) (fun _ => by kernel_rfl) rfl rfl rfl rfl (fun g2 => ?_))
  refine lq rfl (ld_str (xs := [((48#64 + v).setWidth 8)]) (src_full (z := 1) 0 rfl rfl sd sd) Tryd.underlying29 Tryd.underlying5 Tryd.underlying9 rfl rfl) rfl rfl ?_
  refine la rfl rfl rfl rfl rfl ?_
  refine L_nil ?_
  refine T_ret ?_
  refine T_slot 2 (.string (sob [((48#64 + v).setWidth 8)])) (.string (sob (decb v.toNat))) rfl (by first | rw [dig_small v (by assumption)] | rw [dig_big v (by assumption)]) ?_
  exact T_fin () (by first | trivial | omega | (simp; done)) (res1 rfl rfl) [] ⟨by decide, rfl⟩ rfl
 ·
  have hc_1 := of_decide_eq_false hc_1
  refine T_skip ?_
  refine T_seq ?_
  refine T_regD [] 11 11 #[false, false, false, false, false, false, false, false, false, false, false] hF kr kr ?_
  refine D_pure (i := 0) [] rfl kr rfl (pr_move rfl rfl) (.inr rfl) rfl rfl ?_
  refine D_pure (i := 1) [] rfl kr rfl (pr_quou (a := v.toNat) (b := 10) sd sd rfl rfl rfl) (.inr rfl) rfl rfl ?_
  refine D_pure (i := 3) [] rfl kr rfl (pr_move rfl rfl) (.inr rfl) rfl rfl ?_
  refine D_pure (i := 4) [] rfl kr rfl (pr_rem (a := v.toNat) (b := 10) sd rfl rfl rfl) (.inr rfl) rfl rfl ?_
  refine D_pure (i := 5) [] rfl kr rfl (pr_add (na_u64 (a := 48) (b := v.toNat % 10) sd) rfl rfl rfl) (.inr rfl) rfl rfl ?_
  refine D_pure (i := 6) [] rfl kr rfl (pr_cv (nw8 (48 + (v.toNat % 10))) Tryd.underlying22 Tryd.underlying5 rfl rfl) (.inr rfl) rfl rfl ?_
  refine D_join (T := Unit) (fun _ => True) (fun _ => [(2, (.string (sob ((decb (BitVec.ofNat 64 (v.toNat / 10)).toNat) ++ [(BitVec.ofNat 8 (48 + (v.toNat % 10)))]))))]) (fun _ => []) ?_ ?_
  ·
   refine D_all [2, 7] kr (by simp) ⟨⟨_, rfl, rfl, ?_⟩, ⟨_, rfl, rfl, ?_⟩, trivial⟩
   ·
    refine T_slot 11 _ (b64 (BitVec.ofNat 64 (v.toNat / 10))) rfl (nat64 sd) ?_
    refine id (op_cn (fun w hw => ih (BitVec.ofNat 64 (v.toNat / 10)) w (hok_nil w) (dig_lt v (by assumption))) (enters_of Tryd.func36 kr rfl) rfl rfl rfl rfl rfl (fun t6 q7 => ?_))
    refine D_on [] rfl ?_
    refine D_one 7 _ rfl kr rfl (op_bslice (e := 5) (zs := [(b8 (BitVec.ofNat 8 (48 + (v.toNat % 10))))]) (qs := [(0, (b8 (BitVec.ofNat 8 (48 + (v.toNat % 10)))))]) (fun _ => by kernel_rfl) rfl rfl rfl rfl (fun g8 => ?_))
    refine D_on [] rfl ?_
    refine D_one 8 _ rfl kr rfl (op_ld (ld_str (xs := [(BitVec.ofNat 8 (48 + (v.toNat % 10)))]) (src_full (z := 1) 0 rfl rfl sd sd) Tryd.underlying29 Tryd.underlying5 Tryd.underlying9 rfl rfl) rfl rfl ?_)
    refine D_on [] rfl ?_
    refine D_pure (i := 9) [] rfl kr rfl (pr_stradd (xs := (decb (BitVec.ofNat 64 (v.toNat / 10)).toNat)) (ys := [(BitVec.ofNat 8 (48 + (v.toNat % 10)))]) (by first | omega | (simp only [List.length_append, List.length_cons, List.length_nil]; omega) | exact sd) rfl rfl rfl) (.inr rfl) rfl rfl ?_
    refine D_pure (i := 10) [] rfl kr rfl (pr_assign rfl rfl) (.inr rfl) rfl rfl ?_
    refine D_done kr ?_
    exact T_meet () trivial (sc rfl sn) [] ⟨by decide, rfl⟩
   ·
    refine id (op_bslice (e := 5) (zs := [(b8 (BitVec.ofNat 8 (48 + (v.toNat % 10))))]) (qs := [(0, (b8 (BitVec.ofNat 8 (48 + (v.toNat % 10)))))]) (fun _ => by kernel_rfl) rfl rfl rfl rfl (fun g9 => ?_))
    refine D_on [] rfl ?_
    refine D_all [2, 8] kr (by simp) ⟨⟨_, rfl, rfl, ?_⟩, ⟨_, rfl, rfl, ?_⟩, trivial⟩
    ·
     refine T_slot 11 _ (b64 (BitVec.ofNat 64 (v.toNat / 10))) rfl (nat64 sd) ?_
     refine id (op_cn (fun w hw => ih (BitVec.ofNat 64 (v.toNat / 10)) w (hok_nil w) (dig_lt v (by assumption))) (enters_of Tryd.func36 kr rfl) rfl rfl rfl rfl rfl (fun t10 q11 => ?_))
     refine D_on [] rfl ?_
     refine D_one 8 _ rfl kr rfl (op_ld (ld_str (xs := [(BitVec.ofNat 8 (48 + (v.toNat % 10)))]) (src_full (z := 1) 0 rfl rfl sd sd) Tryd.underlying29 Tryd.underlying5 Tryd.underlying9 rfl rfl) rfl rfl ?_)
     refine D_on [] rfl ?_
     refine D_pure (i := 9) [] rfl kr rfl (pr_stradd (xs := (decb (BitVec.ofNat 64 (v.toNat / 10)).toNat)) (ys := [(BitVec.ofNat 8 (48 + (v.toNat % 10)))]) (by first | omega | (simp only [List.length_append, List.length_cons, List.length_nil]; omega) | exact sd) rfl rfl rfl) (.inr rfl) rfl rfl ?_
     refine D_pure (i := 10) [] rfl kr rfl (pr_assign rfl rfl) (.inr rfl) rfl rfl ?_
     refine D_done kr ?_
     exact T_meet () trivial (sc rfl sn) [] ⟨by decide, rfl⟩
    ·
     refine id (op_ld (ld_str (xs := [(BitVec.ofNat 8 (48 + (v.toNat % 10)))]) (src_full (z := 1) 0 rfl rfl sd sd) Tryd.underlying29 Tryd.underlying5 Tryd.underlying9 rfl rfl) rfl rfl ?_)
     refine D_on [] rfl ?_
     refine T_slot 11 _ (b64 (BitVec.ofNat 64 (v.toNat / 10))) rfl (nat64 sd) ?_
     refine D_one 2 _ rfl kr rfl (op_cn (fun w hw => ih (BitVec.ofNat 64 (v.toNat / 10)) w (hok_nil w) (dig_lt v (by assumption))) (enters_of Tryd.func36 kr rfl) rfl rfl rfl rfl rfl (fun t12 q13 => ?_))
     refine D_on [] rfl ?_
     refine D_pure (i := 9) [] rfl kr rfl (pr_stradd (xs := (decb (BitVec.ofNat 64 (v.toNat / 10)).toNat)) (ys := [(BitVec.ofNat 8 (48 + (v.toNat % 10)))]) (by first | omega | (simp only [List.length_append, List.length_cons, List.length_nil]; omega) | exact sd) rfl rfl rfl) (.inr rfl) rfl rfl ?_
     refine D_pure (i := 10) [] rfl kr rfl (pr_assign rfl rfl) (.inr rfl) rfl rfl ?_
     refine D_done kr ?_
     exact T_meet () trivial (sc rfl sn) [] ⟨by decide, rfl⟩
  ·
   rintro ⟨⟩ -
   refine T_re [(2, (.string (sob ((decb (BitVec.ofNat 64 (v.toNat / 10)).toNat) ++ [(BitVec.ofNat 8 (48 + (v.toNat % 10)))]))))] (sc rfl sn) ?_
   refine T_he [] [] ⟨by decide, rfl⟩ ?_
   refine T_ret ?_
   refine T_slot 2 _ (.string (sob (decb v.toNat))) rfl (by first | rw [dig_small v (by assumption)] | rw [dig_big v (by assumption)]) ?_
   exact T_fin () (by first | trivial | omega | (simp; done)) (res1 rfl rfl) [] ⟨by decide, rfl⟩ rfl
theorem digits_f (v : BitVec 64) (w : World) (hO : HOK [] w) : Calls Tryd.prog 36 [b64 v].toArray w (Ret (T := Unit) [] w (fun _ => True) (fun _ => .string (sob (decb v.toNat))) (fun _ => [])) := by
  have key : ∀ (m : Nat) (v : BitVec 64) (w : World), HOK [] w → v.toNat = m → Calls Tryd.prog 36 [b64 v].toArray w (Ret (T := Unit) [] w (fun _ => True) (fun _ => .string (sob (decb v.toNat))) (fun _ => [])) := by
    intro m
    induction m using Nat.strongRecOn with
    | _ m ih => intro v w hO hv; exact digits_step v w hO (fun u w2 h2 hlt => ih u.toNat (hv ▸ hlt) u w2 h2 rfl)
  exact key _ v w hO rfl

set_option maxHeartbeats 4000000 in
theorem number8_f (x : BitVec 64) (w : World) (hO : HOK [] w)  : Calls Tryd.prog 35 [(.int .i64 (i64 x))].toArray w (Ret (T := Unit) [] w (fun _ => True) (fun _ => (.string (sob (itob (i64 x))))) (fun _ => [])) := by
 have hr := i64_rng x
 have hd1 := decb_le (BitVec.ofInt 64 (-(i64 x + ((1 : Nat) : Int))) + 1#64)
 have hF : Wid Fence.wide := wid_wide
 refine enter (c := _) Tryd.func35 rfl [] _ [] (by rw [Tryd.ntmps35]; rfl) (own_rds hO rfl) ?_
 rw [Tryd.ntmps35]
 refine T_re [(0, (.int .i64 (i64 x)))] (sc rfl sn) ?_
 refine T_he [] [] ⟨by decide, rfl⟩ ?_
 refine Tsr hF rfl ?_
 refine la rfl rfl rfl rfl rfl ?_
 refine L_nil ?_
 refine T_seq ?_
 refine Tsr hF rfl ?_
 refine lm rfl rfl rfl rfl rfl ?_
 refine lo rfl (pr_cmp (bo := .lss) (k := .i64) (a := (i64 x)) (b := ((0 : Nat) : Int)) (c := decide ((i64 x) < ((0 : Nat) : Int))) rfl rfl rfl rfl rfl) rfl rfl ?_
 refine L_nil ?_
 refine T_cond (decide ((i64 x) < ((0 : Nat) : Int))) rfl (fun hc_1 => ?_) (fun hc_1 => ?_)
 ·
  have hc_1 := of_decide_eq_true hc_1
  refine Tsr hF rfl ?_
  refine lm rfl rfl rfl rfl rfl ?_
  refine lo rfl (pr_add (zw_i64 (z := ((i64 x) + ((1 : Nat) : Int))) sd) rfl rfl rfl) rfl rfl ?_
  refine lo rfl (pr_un (un_negz (z := ((i64 x) + ((1 : Nat) : Int))) sd) rfl rfl) rfl rfl ?_
  refine lo rfl (pr_cv (zc_u64 (-((i64 x) + ((1 : Nat) : Int)))) Tryd.underlying2 Tryd.underlying22 rfl rfl) rfl rfl ?_
  refine lo rfl (pr_add (add64 _ (1#64)) rfl rfl rfl) rfl rfl ?_
  refine L_op rfl (op_cn (fun w hw => digits_f ((BitVec.ofInt 64 (-((i64 x) + ((1 : Nat) : Int)))) + 1#64) w (hok_nil w) ) (enters_of Tryd.func36 kr rfl) rfl rfl rfl rfl rfl (fun t2 q3 => ?_))
  refine lo rfl (pr_stradd (xs := [45#8]) (ys := (decb ((BitVec.ofInt 64 (-((i64 x) + ((1 : Nat) : Int)))) + 1#64).toNat)) (by first | omega | (simp only [List.length_append, List.length_cons, List.length_nil]; omega) | exact sd) rfl kr rfl) rfl rfl ?_
  refine la rfl rfl rfl rfl rfl ?_
  refine L_nil ?_
  refine T_ret ?_
  refine T_slot 2 _ (.string (sob (itob (i64 x)))) rfl (by first | (rw [itob_neg (by assumption), num_neg x (by assumption)]; rfl) | (rw [itob_pos (by assumption), ← num_pos x (by assumption)])) ?_
  exact T_fin () (by first | trivial | omega | (simp; done)) (res1 rfl rfl) [] ⟨by decide, rfl⟩ rfl
 ·
  have hc_1 := of_decide_eq_false hc_1
  refine T_skip ?_
  refine Tsr hF rfl ?_
  refine lm rfl rfl rfl rfl rfl ?_
  refine lo rfl (pr_cv (zc_i64u x) Tryd.underlying2 Tryd.underlying22 rfl rfl) rfl rfl ?_
  refine L_op rfl (op_cn (fun w hw => digits_f x w (hok_nil w) ) (enters_of Tryd.func36 kr rfl) rfl rfl rfl rfl rfl (fun t4 q5 => ?_))
  refine la rfl rfl rfl rfl rfl ?_
  refine L_nil ?_
  refine T_ret ?_
  refine T_slot 2 (.string (sob (decb x.toNat))) (.string (sob (itob (i64 x)))) rfl (by first | (rw [itob_neg (by assumption), num_neg x (by assumption)]; rfl) | (rw [itob_pos (by assumption), ← num_pos x (by assumption)])) ?_
  exact T_fin () (by first | trivial | omega | (simp; done)) (res1 rfl rfl) [] ⟨by decide, rfl⟩ rfl
set_option maxHeartbeats 4000000 in
theorem allS_seq (xs : List (List (BitVec 8))) (A : Option Addr) (n : Nat) (c : Nat) (g1 : Nat) (hx : xs.length = n) (hn : n ≤ 1000000) : SeqC (Θ := Unit) Tryd.prog 39 [(.pointer (some ⟨g1, 0, none⟩))] [.rd (some ⟨g1, 0, none⟩) 1 1 1 [(.slice A n c)], .rd A 1 n c (xs.map bst)] n (fun k _ => [(.int .i64 ((k : Nat) : Int)), (.string (sob (sat xs k)))]) (fun k _ => []) := by
 have hF : Wid Fence.wide := wid_wide
 refine enter_seq (c := _) Tryd.func39 rfl (by rw [Tryd.ntmps39]; rfl) rfl ?_
 intro l J Jx W O R hsJ hsX hy hend
 rw [Tryd.ntmps39]
 refine T_re [(0, (.func (.yield l) #[] #[])), (1, (.pointer (some ⟨g1, 0, none⟩)))] (sc rfl (sc rfl sn)) ?_
 refine T_he [0, 1, 2] [.inv W.heap.size O R (J 0 O R), .rd (some ⟨g1, 0, none⟩) 1 1 1 [(.slice A n c)], .rd A 1 n c (xs.map bst)] ⟨by decide, rfl⟩ ?_
 refine Tsr hF rfl ?_
 refine lq rfl (ld_rdb (src_rd 1 rfl) rfl Tryd.underlying46 rfl rfl rfl) rfl rfl ?_
 refine lo rfl (pr_len_sl Tryd.underlying46 rfl rfl) rfl rfl ?_
 refine lm rfl rfl rfl rfl rfl ?_
 refine L_nil ?_
 refine T_block ?_
 refine T_loop (T := Nat × List Nat × List Nat) (fun ⟨k, O, R⟩ => k ≤ n) (fun ⟨k, O, R⟩ => [(0, (.func (.yield l) #[] #[])), (5, (.slice A n c)), (6, (.int .i64 ((n : Nat) : Int))), (7, (.int .i64 ((k : Nat) : Int)))]) (fun ⟨k, O, R⟩ => [.inv W.heap.size O R (J k O R), .rd (some ⟨g1, 0, none⟩) 1 1 1 [(.slice A n c)], .rd A 1 n c (xs.map bst)]) (fun ⟨k, O, R⟩ => n - k) (0, O, R) (by first | trivial | ((try dsimp only); first | omega | (refine ⟨?_, ?_⟩ <;> omega) | (refine ⟨?_, ?_, ?_⟩ <;> omega) | (simp; done) | (simp; omega))) (sc rfl (sc rfl (sc rfl (sc rfl sn)))) [0, 1, 2] ⟨by decide, rfl⟩ ?_
 rintro ⟨k, O, R⟩ hp
 have hp : k ≤ n := hp
 refine T_re [(0, (.func (.yield l) #[] #[])), (5, (.slice A n c)), (6, (.int .i64 ((n : Nat) : Int))), (7, (.int .i64 ((k : Nat) : Int)))] (sc rfl (sc rfl (sc rfl (sc rfl sn)))) ?_
 refine T_he [0, 1, 2] [.inv W.heap.size O R (J k O R), .rd (some ⟨g1, 0, none⟩) 1 1 1 [(.slice A n c)], .rd A 1 n c (xs.map bst)] ⟨by decide, rfl⟩ ?_
 refine Tsr hF rfl ?_
 refine lo rfl (pr_cmp (bo := .lss) (nc_lt (a := k) (b := n)) rfl rfl rfl rfl) rfl rfl ?_
 refine L_nil ?_
 refine T_seq ?_
 refine T_cond (decide (k < n)) rfl (fun hc_1 => ?_) (fun hc_1 => ?_)
 ·
  have hc_1 := of_decide_eq_true hc_1
  refine T_skip ?_
  refine T_seq ?_
  refine T_block ?_
  refine Tsr hF rfl ?_
  refine lm rfl rfl rfl rfl rfl ?_
  refine lo rfl (pr_ixs1 (j := k) (src_none (src_rd 2 rfl)) sd Tryd.underlying46 kr rfl rfl rfl) rfl rfl ?_
  refine lq rfl (ld_src (m := k) (src_rd 2 rfl) (getS sd) Tryd.underlying9 rfl rfl rfl) rfl rfl ?_
  refine la rfl rfl rfl rfl rfl ?_
  refine la rfl rfl rfl rfl rfl ?_
  refine L_nil ?_
  refine T_seq ?_
  refine T_regI ?_
  refine LI_opP hF rfl rfl (op_pr (pr_move rfl rfl) rfl rfl ?_)
  refine LI_opP hF rfl rfl (op_pr (pr_move rfl rfl) rfl rfl ?_)
  refine LI_opP hF rfl rfl (op_pr (pr_move rfl rfl) rfl rfl ?_)
  refine LI_op rfl (op_yield (k := k) () hy sd hsJ hsX 0 rfl [] rfl rfl rfl rfl rfl rfl rfl rfl rfl (fun _ => trivial) (fun O2 R3 => ?_) (fun O4 R5 => ?_))
  ·
   refine LI_opP hF rfl rfl (op_pr (pr_un (v := .bool false) rfl rfl rfl) rfl rfl ?_)
   refine LI_nil ?_
   refine T_cond_f rfl ?_
   refine T_skip ?_
   refine T_reg hF rfl ?_
   refine lo rfl (pr_add (na_i64 (a := k) (b := 1) sd) rfl rfl rfl) rfl rfl ?_
   refine lm rfl rfl rfl rfl rfl ?_
   refine L_nil ?_
   exact T_again (k + 1, O2, R3) (by first | trivial | ((try dsimp only); first | omega | (refine ⟨?_, ?_⟩ <;> omega) | (refine ⟨?_, ?_, ?_⟩ <;> omega) | (simp; done) | (simp; omega))) (by first | trivial | ((try dsimp only); first | omega | (refine ⟨?_, ?_⟩ <;> omega) | (refine ⟨?_, ?_, ?_⟩ <;> omega) | (simp; done) | (simp; omega))) (sc rfl (sc rfl (sc rfl (sc rfl sn)))) [0, 1, 2] ⟨by decide, rfl⟩
  ·
   refine LI_opP hF rfl rfl (op_pr (pr_un (v := .bool true) rfl rfl rfl) rfl rfl ?_)
   refine LI_nil ?_
   refine T_cond_t rfl ?_
   refine T_ret ?_
   exact T_finX rfl rfl 0 rfl
 ·
  have hc_1 := of_decide_eq_false hc_1
  refine T_exit rfl ?_
  obtain rfl : k = n := by omega
  exact T_finJ rfl rfl 0 rfl
set_option maxHeartbeats 4000000 in
theorem allS_f (A : Option Addr) (n : Nat) (c : Nat) (w : World) (hO : HOK [] w)  : Calls Tryd.prog 27 [(.slice A n c)].toArray w (Ret (T := Nat) [] w (fun g1 => True) (fun g1 => (.func (.func 39) #[] [(.pointer (some ⟨g1, 0, none⟩))].toArray)) (fun g1 => [.old (some ⟨g1, 0, none⟩) 1 1 1 [(.slice A n c)]])) := by
 have hF : Wid Fence.wide := wid_wide
 refine enter (c := _) Tryd.func27 rfl [] _ [] (by rw [Tryd.ntmps27]; rfl) (own_rds hO rfl) ?_
 rw [Tryd.ntmps27]
 refine T_re [(0, (.slice A n c))] (sc rfl sn) ?_
 refine T_he [] [] ⟨by decide, rfl⟩ ?_
 refine Tsr hF rfl ?_
 refine L_op rfl (op_box (zs := [(.slice A n c)]) rfl rfl rfl rfl rfl (fun g1 => ?_))
 refine la rfl rfl rfl rfl rfl ?_
 refine L_nil ?_
 refine Tsr hF rfl ?_
 refine lo rfl (pr_mkfn (us := []) (vs := [(.pointer (some ⟨g1, 0, none⟩))]) rfl rfl rfl) rfl rfl ?_
 refine la rfl rfl rfl rfl rfl ?_
 refine L_nil ?_
 refine T_ret ?_
 refine T_oldb 0 (zs := [(.slice A n c)]) 0 1 1 1 rfl rfl rfl sd sd ?_
 exact T_fin g1 (by first | trivial | omega | (simp; done)) (res1 rfl rfl) [0] ⟨by decide, rfl⟩ rfl
/-- The marks of a name; a name of five numerals, so far; a place's name. -/
def nmarks : List (List (BitVec 8)) := [[112#8], [46#8, 114#8], [46#8, 97#8], [46#8, 116#8], [46#8, 105#8]]
def nmk (ps : List (List (BitVec 8))) : Nat → List (BitVec 8)
  | 0 => []
  | k + 1 => nmk ps k ++ (sat nmarks k ++ sat ps k)
def pname (a b c d e : List (BitVec 8)) : List (BitVec 8) := nmk [a, b, c, d, e] 5
theorem nmk_succ (ps : List (List (BitVec 8))) (k : Nat) : nmk ps (k + 1) = nmk ps k ++ (sat nmarks k ++ sat ps k) := rfl
theorem nmk_le (ps : List (List (BitVec 8))) (m : Nat) (hm : ∀ k, (sat ps k).length ≤ m) : ∀ k, (nmk ps k).length ≤ k * (m + 2)
  | 0 => by simp [nmk]
  | k + 1 => by
    have h1 := nmk_le ps m hm k
    have h2 := hm k
    have h3 : (sat nmarks k).length ≤ 2 := by
      unfold sat nmarks
      rcases k with _ | _ | _ | _ | _ | k <;> simp [List.getD_eq_getElem?_getD]
    rw [nmk, List.length_append, List.length_append, Nat.succ_mul]; omega
theorem sat5_le (a b c d e : List (BitVec 8)) (m : Nat) (ha : a.length ≤ m) (hb : b.length ≤ m) (hc : c.length ≤ m) (hd : d.length ≤ m) (he : e.length ≤ m) (k : Nat) : (sat [a, b, c, d, e] k).length ≤ m := by
  unfold sat
  rcases k with _ | _ | _ | _ | _ | k <;> simp [List.getD_eq_getElem?_getD] <;> omega
theorem marks_le (k : Nat) : (sat nmarks k).length ≤ 2 := by
  unfold sat nmarks
  rcases k with _ | _ | _ | _ | _ | k <;> simp [List.getD_eq_getElem?_getD]
theorem pname_eq (a b c d e : List (BitVec 8)) : pname a b c d e = [112#8] ++ a ++ [46#8, 114#8] ++ b ++ [46#8, 97#8] ++ c ++ [46#8, 116#8] ++ d ++ [46#8, 105#8] ++ e := by
  simp [pname, nmk, nmarks, sat]
attribute [irreducible] pname nmk

set_option maxRecDepth 100000 in
set_option maxHeartbeats 4000000 in
theorem kname_f (pp : BitVec 64) (pr : BitVec 64) (pa : BitVec 64) (pt : BitVec 64) (pi : BitVec 64) (w : World) (hO : HOK [] w) (htab : Tab w) : Calls Tryd.prog 8 [(.agg [(.int .i64 (i64 pp)), (.int .i64 (i64 pr)), (.int .i64 (i64 pa)), (b64 pt), (.int .i64 (i64 pi))].toArray)].toArray w (Ret (T := Unit) [] w (fun _ => True) (fun _ => (.string (sob (pname (itob (i64 pp)) (itob (i64 pr)) (itob (i64 pa)) (decb pt.toNat) (itob (i64 pi)))))) (fun _ => [])) := by
 have hl0 := itob_le pp
 have hl1 := itob_le pr
 have hl2 := itob_le pa
 have hl3 := decb_le pt
 have hl4 := itob_le pi
 have hsl := sat5_le (itob (i64 pp)) (itob (i64 pr)) (itob (i64 pa)) (decb pt.toNat) (itob (i64 pi)) 22 hl0 hl1 hl2 (by omega) hl4
 have hnl := nmk_le [(itob (i64 pp)), (itob (i64 pr)), (itob (i64 pa)), (decb pt.toNat), (itob (i64 pi))] 22 hsl
 have hF : Wid Fence.wide := wid_wide
 refine enter_m (c := _) Tryd.func8 rfl [] _ [] (by rw [Tryd.ntmps8]; rfl) (own_rds hO rfl) ?_
 rw [Tryd.ntmps8]
 refine T_re [(0, (.agg [(.int .i64 (i64 pp)), (.int .i64 (i64 pr)), (.int .i64 (i64 pa)), (b64 pt), (.int .i64 (i64 pi))].toArray))] (sc rfl sn) ?_
 refine T_he [] [] ⟨by decide, rfl⟩ ?_
 refine Tsr hF rfl ?_
 refine L_op rfl (op_box (zs := [(.int .i64 (i64 pp)), (.int .i64 (i64 pr)), (.int .i64 (i64 pa)), (b64 pt), (.int .i64 (i64 pi))]) rfl rfl rfl rfl rfl (fun g1 => ?_))
 refine la rfl rfl rfl rfl rfl ?_
 refine L_nil ?_
 refine Tsr hF rfl ?_
 refine lo rfl (pr_fa (m := 0) (m' := 3) (z := 0) (by rfl) Tryd.underlying24 rfl kr rfl rfl) rfl rfl ?_
 refine lq rfl (ld_blk 0 rfl rfl Tryd.underlying22 rfl rfl rfl) rfl rfl ?_
 refine L_op rfl (op_cnK (fun w hw kp => fuint_f pt w (hok_nil w) (tab_keep htab kp)) (enters_of Tryd.func25 kr rfl) rfl rfl rfl rfl rfl (fun t2 q3 => ?_))
 refine la rfl rfl rfl rfl rfl ?_
 refine L_nil ?_
 refine T_seq ?_
 refine T_regD [.blk g1 24 [(.int .i64 (i64 pp)), (.int .i64 (i64 pr)), (.int .i64 (i64 pa)), (b64 pt), (.int .i64 (i64 pi))]] 16 16 #[false, false, false, false, false, false, false, false, false, false, false, false, false, false, false, false] hF kr kr ?_
 refine D_pure (i := 0) [0] rfl kr rfl (pr_fa (m := 0) (m' := 0) (z := 0) (by rfl) Tryd.underlying24 rfl kr rfl rfl) (.inr rfl) rfl rfl ?_
 refine D_pure (i := 3) [0] rfl kr rfl (pr_fa (m := 0) (m' := 1) (z := 0) (by rfl) Tryd.underlying24 rfl kr rfl rfl) (.inr rfl) rfl rfl ?_
 refine D_pure (i := 6) [0] rfl kr rfl (pr_fa (m := 0) (m' := 2) (z := 0) (by rfl) Tryd.underlying24 rfl kr rfl rfl) (.inr rfl) rfl rfl ?_
 refine D_pure (i := 9) [0] rfl kr rfl (pr_move rfl rfl) (.inr rfl) rfl rfl ?_
 refine D_pure (i := 10) [0] rfl kr rfl (pr_fa (m := 0) (m' := 4) (z := 0) (by rfl) Tryd.underlying24 rfl kr rfl rfl) (.inr rfl) rfl rfl ?_
 refine D_take (i := 1) [0] rfl kr rfl (ld_blk 0 rfl rfl Tryd.underlying3 rfl rfl rfl) rfl rfl rfl ?_
 refine D_take (i := 4) [0] rfl kr rfl (ld_blk 0 rfl rfl Tryd.underlying3 rfl rfl rfl) rfl rfl rfl ?_
 refine D_take (i := 7) [0] rfl kr rfl (ld_blk 0 rfl rfl Tryd.underlying3 rfl rfl rfl) rfl rfl rfl ?_
 refine D_take (i := 11) [0] rfl kr rfl (ld_blk 0 rfl rfl Tryd.underlying3 rfl rfl rfl) rfl rfl rfl ?_
 refine D_join (T := Nat × Nat) (fun _ => True) (fun ⟨g12, g13⟩ => [(4, (.pointer (some ⟨g13, 0, none⟩)))]) (fun ⟨g12, g13⟩ => [.blk g13 46 [(.slice (some ⟨g12, 0, none⟩) 5 5)], .blk g12 9 [(.string (sob (itob (i64 pp)))), (.string (sob (itob (i64 pr)))), (.string (sob (itob (i64 pa)))), (.string (sob (decb pt.toNat))), (.string (sob (itob (i64 pi))))], .blk g1 24 [(.int .i64 (i64 pp)), (.int .i64 (i64 pr)), (.int .i64 (i64 pa)), (b64 pt), (.int .i64 (i64 pi))]]) ?_ ?_
 ·
  refine D_all [2, 14] kr (by simp) ⟨⟨_, rfl, rfl, ?_⟩, ⟨_, rfl, rfl, ?_⟩, trivial⟩
  ·
   refine id (op_cnK (fun w hw kp => itoa_f pp w (hok_nil w) (tab_keep htab kp)) (enters_of Tryd.func26 kr rfl) rfl rfl rfl rfl rfl (fun t14 q15 => ?_))
   refine D_on [0] rfl ?_
   refine D_all [5, 14] kr (by simp) ⟨⟨_, rfl, rfl, ?_⟩, ⟨_, rfl, rfl, ?_⟩, trivial⟩
   ·
    refine id (op_cnK (fun w hw kp => itoa_f pr w (hok_nil w) (tab_keep htab kp)) (enters_of Tryd.func26 kr rfl) rfl rfl rfl rfl rfl (fun t16 q17 => ?_))
    refine D_on [0] rfl ?_
    refine D_all [8, 14] kr (by simp) ⟨⟨_, rfl, rfl, ?_⟩, ⟨_, rfl, rfl, ?_⟩, trivial⟩
    ·
     refine id (op_cnK (fun w hw kp => itoa_f pa w (hok_nil w) (tab_keep htab kp)) (enters_of Tryd.func26 kr rfl) rfl rfl rfl rfl rfl (fun t18 q19 => ?_))
     refine D_on [0] rfl ?_
     refine D_all [12, 14] kr (by simp) ⟨⟨_, rfl, rfl, ?_⟩, ⟨_, rfl, rfl, ?_⟩, trivial⟩
     ·
      refine id (op_cnK (fun w hw kp => itoa_f pi w (hok_nil w) (tab_keep htab kp)) (enters_of Tryd.func26 kr rfl) rfl rfl rfl rfl rfl (fun t20 q21 => ?_))
      refine D_on [0] rfl ?_
      refine D_all [13, 14] kr (by simp) ⟨⟨_, rfl, rfl, ?_⟩, ⟨_, rfl, rfl, ?_⟩, trivial⟩
      ·
       refine id (op_bslice (e := 9) (zs := [(.string (sob (itob (i64 pp)))), (.string (sob (itob (i64 pr)))), (.string (sob (itob (i64 pa)))), (.string (sob (decb pt.toNat))), (.string (sob (itob (i64 pi))))]) (qs := [(0, (.string (sob (itob (i64 pp))))), (1, (.string (sob (itob (i64 pr))))), (2, (.string (sob (itob (i64 pa))))), (3, (.string (sob (decb pt.toNat)))), (4, (.string (sob (itob (i64 pi)))))]) (fun _ => by kernel_rfl) rfl rfl rfl rfl (fun g22 => ?_))
       refine D_on [1] rfl ?_
       refine D_one 14 _ rfl kr rfl (op_alloc (z := (.slice none 0 0)) (zs := [(.slice none 0 0)]) kr rfl rfl rfl rfl (fun g23 => ?_))
       refine D_on [2] rfl ?_
       refine D_one 15 _ rfl kr rfl (op_store (vs := [(.slice (some ⟨g22, 0, none⟩) 5 5)]) (cs' := [(.slice (some ⟨g22, 0, none⟩) 5 5)]) 0 rfl rfl kr (one_one rfl) (by first | decide | simp | exact Nat.le_refl _) rfl rfl rfl rfl rfl ?_)
       refine D_on [2] rfl ?_
       refine D_done kr ?_
       exact T_meet (g22, g23) trivial (sc rfl sn) [0, 1, 2] ⟨by decide, rfl⟩
      ·
       refine id (op_alloc (z := (.slice none 0 0)) (zs := [(.slice none 0 0)]) kr rfl rfl rfl rfl (fun g24 => ?_))
       refine D_on [1] rfl ?_
       refine D_one 13 _ rfl kr rfl (op_bslice (e := 9) (zs := [(.string (sob (itob (i64 pp)))), (.string (sob (itob (i64 pr)))), (.string (sob (itob (i64 pa)))), (.string (sob (decb pt.toNat))), (.string (sob (itob (i64 pi))))]) (qs := [(0, (.string (sob (itob (i64 pp))))), (1, (.string (sob (itob (i64 pr))))), (2, (.string (sob (itob (i64 pa))))), (3, (.string (sob (decb pt.toNat)))), (4, (.string (sob (itob (i64 pi)))))]) (fun _ => by kernel_rfl) rfl rfl rfl rfl (fun g25 => ?_))
       refine D_on [2] rfl ?_
       refine D_one 15 _ rfl kr rfl (op_store (vs := [(.slice (some ⟨g25, 0, none⟩) 5 5)]) (cs' := [(.slice (some ⟨g25, 0, none⟩) 5 5)]) 1 rfl rfl kr (one_one rfl) (by first | decide | simp | exact Nat.le_refl _) rfl rfl rfl rfl rfl ?_)
       refine D_on [2] rfl ?_
       refine D_done kr ?_
       exact T_meet (g25, g24) trivial (sc rfl sn) [0, 1, 2] ⟨by decide, rfl⟩
     ·
      refine id (op_alloc (z := (.slice none 0 0)) (zs := [(.slice none 0 0)]) kr rfl rfl rfl rfl (fun g26 => ?_))
      refine D_on [1] rfl ?_
      refine D_one 12 _ rfl kr rfl (op_cnK (fun w hw kp => itoa_f pi w (hok_nil w) (tab_keep htab kp)) (enters_of Tryd.func26 kr rfl) rfl rfl rfl rfl rfl (fun t27 q28 => ?_))
      refine D_on [1] rfl ?_
      refine D_one 13 _ rfl kr rfl (op_bslice (e := 9) (zs := [(.string (sob (itob (i64 pp)))), (.string (sob (itob (i64 pr)))), (.string (sob (itob (i64 pa)))), (.string (sob (decb pt.toNat))), (.string (sob (itob (i64 pi))))]) (qs := [(0, (.string (sob (itob (i64 pp))))), (1, (.string (sob (itob (i64 pr))))), (2, (.string (sob (itob (i64 pa))))), (3, (.string (sob (decb pt.toNat)))), (4, (.string (sob (itob (i64 pi)))))]) (fun _ => by kernel_rfl) rfl rfl rfl rfl (fun g29 => ?_))
      refine D_on [2] rfl ?_
      refine D_one 15 _ rfl kr rfl (op_store (vs := [(.slice (some ⟨g29, 0, none⟩) 5 5)]) (cs' := [(.slice (some ⟨g29, 0, none⟩) 5 5)]) 1 rfl rfl kr (one_one rfl) (by first | decide | simp | exact Nat.le_refl _) rfl rfl rfl rfl rfl ?_)
      refine D_on [2] rfl ?_
      refine D_done kr ?_
      exact T_meet (g29, g26) trivial (sc rfl sn) [0, 1, 2] ⟨by decide, rfl⟩
    ·
     refine id (op_alloc (z := (.slice none 0 0)) (zs := [(.slice none 0 0)]) kr rfl rfl rfl rfl (fun g30 => ?_))
     refine D_on [1] rfl ?_
     refine D_one 8 _ rfl kr rfl (op_cnK (fun w hw kp => itoa_f pa w (hok_nil w) (tab_keep htab kp)) (enters_of Tryd.func26 kr rfl) rfl rfl rfl rfl rfl (fun t31 q32 => ?_))
     refine D_on [1] rfl ?_
     refine D_one 12 _ rfl kr rfl (op_cnK (fun w hw kp => itoa_f pi w (hok_nil w) (tab_keep htab kp)) (enters_of Tryd.func26 kr rfl) rfl rfl rfl rfl rfl (fun t33 q34 => ?_))
     refine D_on [1] rfl ?_
     refine D_one 13 _ rfl kr rfl (op_bslice (e := 9) (zs := [(.string (sob (itob (i64 pp)))), (.string (sob (itob (i64 pr)))), (.string (sob (itob (i64 pa)))), (.string (sob (decb pt.toNat))), (.string (sob (itob (i64 pi))))]) (qs := [(0, (.string (sob (itob (i64 pp))))), (1, (.string (sob (itob (i64 pr))))), (2, (.string (sob (itob (i64 pa))))), (3, (.string (sob (decb pt.toNat)))), (4, (.string (sob (itob (i64 pi)))))]) (fun _ => by kernel_rfl) rfl rfl rfl rfl (fun g35 => ?_))
     refine D_on [2] rfl ?_
     refine D_one 15 _ rfl kr rfl (op_store (vs := [(.slice (some ⟨g35, 0, none⟩) 5 5)]) (cs' := [(.slice (some ⟨g35, 0, none⟩) 5 5)]) 1 rfl rfl kr (one_one rfl) (by first | decide | simp | exact Nat.le_refl _) rfl rfl rfl rfl rfl ?_)
     refine D_on [2] rfl ?_
     refine D_done kr ?_
     exact T_meet (g35, g30) trivial (sc rfl sn) [0, 1, 2] ⟨by decide, rfl⟩
   ·
    refine id (op_alloc (z := (.slice none 0 0)) (zs := [(.slice none 0 0)]) kr rfl rfl rfl rfl (fun g36 => ?_))
    refine D_on [1] rfl ?_
    refine D_one 5 _ rfl kr rfl (op_cnK (fun w hw kp => itoa_f pr w (hok_nil w) (tab_keep htab kp)) (enters_of Tryd.func26 kr rfl) rfl rfl rfl rfl rfl (fun t37 q38 => ?_))
    refine D_on [1] rfl ?_
    refine D_one 8 _ rfl kr rfl (op_cnK (fun w hw kp => itoa_f pa w (hok_nil w) (tab_keep htab kp)) (enters_of Tryd.func26 kr rfl) rfl rfl rfl rfl rfl (fun t39 q40 => ?_))
    refine D_on [1] rfl ?_
    refine D_one 12 _ rfl kr rfl (op_cnK (fun w hw kp => itoa_f pi w (hok_nil w) (tab_keep htab kp)) (enters_of Tryd.func26 kr rfl) rfl rfl rfl rfl rfl (fun t41 q42 => ?_))
    refine D_on [1] rfl ?_
    refine D_one 13 _ rfl kr rfl (op_bslice (e := 9) (zs := [(.string (sob (itob (i64 pp)))), (.string (sob (itob (i64 pr)))), (.string (sob (itob (i64 pa)))), (.string (sob (decb pt.toNat))), (.string (sob (itob (i64 pi))))]) (qs := [(0, (.string (sob (itob (i64 pp))))), (1, (.string (sob (itob (i64 pr))))), (2, (.string (sob (itob (i64 pa))))), (3, (.string (sob (decb pt.toNat)))), (4, (.string (sob (itob (i64 pi)))))]) (fun _ => by kernel_rfl) rfl rfl rfl rfl (fun g43 => ?_))
    refine D_on [2] rfl ?_
    refine D_one 15 _ rfl kr rfl (op_store (vs := [(.slice (some ⟨g43, 0, none⟩) 5 5)]) (cs' := [(.slice (some ⟨g43, 0, none⟩) 5 5)]) 1 rfl rfl kr (one_one rfl) (by first | decide | simp | exact Nat.le_refl _) rfl rfl rfl rfl rfl ?_)
    refine D_on [2] rfl ?_
    refine D_done kr ?_
    exact T_meet (g43, g36) trivial (sc rfl sn) [0, 1, 2] ⟨by decide, rfl⟩
  ·
   refine id (op_alloc (z := (.slice none 0 0)) (zs := [(.slice none 0 0)]) kr rfl rfl rfl rfl (fun g44 => ?_))
   refine D_on [1] rfl ?_
   refine D_one 2 _ rfl kr rfl (op_cnK (fun w hw kp => itoa_f pp w (hok_nil w) (tab_keep htab kp)) (enters_of Tryd.func26 kr rfl) rfl rfl rfl rfl rfl (fun t45 q46 => ?_))
   refine D_on [1] rfl ?_
   refine D_one 5 _ rfl kr rfl (op_cnK (fun w hw kp => itoa_f pr w (hok_nil w) (tab_keep htab kp)) (enters_of Tryd.func26 kr rfl) rfl rfl rfl rfl rfl (fun t47 q48 => ?_))
   refine D_on [1] rfl ?_
   refine D_one 8 _ rfl kr rfl (op_cnK (fun w hw kp => itoa_f pa w (hok_nil w) (tab_keep htab kp)) (enters_of Tryd.func26 kr rfl) rfl rfl rfl rfl rfl (fun t49 q50 => ?_))
   refine D_on [1] rfl ?_
   refine D_one 12 _ rfl kr rfl (op_cnK (fun w hw kp => itoa_f pi w (hok_nil w) (tab_keep htab kp)) (enters_of Tryd.func26 kr rfl) rfl rfl rfl rfl rfl (fun t51 q52 => ?_))
   refine D_on [1] rfl ?_
   refine D_one 13 _ rfl kr rfl (op_bslice (e := 9) (zs := [(.string (sob (itob (i64 pp)))), (.string (sob (itob (i64 pr)))), (.string (sob (itob (i64 pa)))), (.string (sob (decb pt.toNat))), (.string (sob (itob (i64 pi))))]) (qs := [(0, (.string (sob (itob (i64 pp))))), (1, (.string (sob (itob (i64 pr))))), (2, (.string (sob (itob (i64 pa))))), (3, (.string (sob (decb pt.toNat)))), (4, (.string (sob (itob (i64 pi)))))]) (fun _ => by kernel_rfl) rfl rfl rfl rfl (fun g53 => ?_))
   refine D_on [2] rfl ?_
   refine D_one 15 _ rfl kr rfl (op_store (vs := [(.slice (some ⟨g53, 0, none⟩) 5 5)]) (cs' := [(.slice (some ⟨g53, 0, none⟩) 5 5)]) 1 rfl rfl kr (one_one rfl) (by first | decide | simp | exact Nat.le_refl _) rfl rfl rfl rfl rfl ?_)
   refine D_on [2] rfl ?_
   refine D_done kr ?_
   exact T_meet (g53, g44) trivial (sc rfl sn) [0, 1, 2] ⟨by decide, rfl⟩
 ·
  rintro ⟨g12, g13⟩ -
  refine T_re [(4, (.pointer (some ⟨g13, 0, none⟩)))] (sc rfl sn) ?_
  refine T_he [0, 1, 2] [.blk g13 46 [(.slice (some ⟨g12, 0, none⟩) 5 5)], .blk g12 9 [(.string (sob (itob (i64 pp)))), (.string (sob (itob (i64 pr)))), (.string (sob (itob (i64 pa)))), (.string (sob (decb pt.toNat))), (.string (sob (itob (i64 pi))))], .blk g1 24 [(.int .i64 (i64 pp)), (.int .i64 (i64 pr)), (.int .i64 (i64 pa)), (b64 pt), (.int .i64 (i64 pi))]] ⟨by decide, rfl⟩ ?_
  refine Tsr hF rfl ?_
  refine L_op rfl (op_alloc (z := (.string (sob []))) (zs := [(.string (sob []))]) kr rfl rfl rfl rfl (fun g54 => ?_))
  refine L_op rfl (op_store (vs := [(.string (sob []))]) (cs' := [(.string (sob []))]) 0 rfl rfl kr (one_one rfl) (by first | decide | simp | exact Nat.le_refl _) rfl rfl rfl rfl rfl ?_)
  refine L_nil ?_
  refine T_seq ?_
  refine Tsr hF rfl ?_
  refine L_op rfl (op_bslice (e := 9) (zs := [(.string (sob [112#8])), (.string (sob [46#8, 114#8])), (.string (sob [46#8, 97#8])), (.string (sob [46#8, 116#8])), (.string (sob [46#8, 105#8]))]) (qs := [(0, (.string (sob [112#8]))), (1, (.string (sob [46#8, 114#8]))), (2, (.string (sob [46#8, 97#8]))), (3, (.string (sob [46#8, 116#8]))), (4, (.string (sob [46#8, 105#8])))]) (fun _ => by kernel_rfl) kr rfl rfl rfl (fun g55 => ?_))
  refine L_op rfl (op_cn (fun w hw => allS_f (some ⟨g55, 0, none⟩) 5 5 w (hok_nil w) ) (enters_of Tryd.func27 kr rfl) rfl rfl rfl rfl rfl (fun t56 q57 => ?_))
  obtain ⟨g1_58, eg1_58⟩ : ∃ x, x = t56 := ⟨_, rfl⟩
  subst eg1_58
  refine L_nil ?_
  refine T_block ?_
  refine T_tord 0 rfl ?_
  refine T_oldb 1 (zs := (([[112#8], [46#8, 114#8], [46#8, 97#8], [46#8, 116#8], [46#8, 105#8]]).map bst)) 0 1 5 5 rfl sd (by first | rfl | (rw [List.drop_zero, List.take_of_length_le (by first | (simp; omega) | (rw [rcs_len]; simp))])) sd sd ?_
  refine T_tord 0 rfl ?_
  refine T_as 4 _ (.blk g12 9 ([(itob (i64 pp)), (itob (i64 pr)), (itob (i64 pa)), (decb pt.toNat), (itob (i64 pi))].map bst)) rfl rfl ?_
  refine T_as 3 _ (.blk g54 9 [(.string (sob (nmk [(itob (i64 pp)), (itob (i64 pr)), (itob (i64 pa)), (decb pt.toNat), (itob (i64 pi))] 0)))]) rfl (by rw [nmk]) ?_
  refine T_range (Θ := Unit) (T := Unit) (Tx := Unit) (cap := [(.pointer (some ⟨g1_58, 0, none⟩))]) (ps := [27, 28]) (allS_seq ([[112#8], [46#8, 114#8], [46#8, 97#8], [46#8, 116#8], [46#8, 105#8]]) (some ⟨g55, 0, none⟩) 5 5 g1_58 sd sd) rfl (enters_of Tryd.func39 kr rfl) (fun k _ => k ≤ 5) (fun k _ => [.blk g12 9 ([(itob (i64 pp)), (itob (i64 pr)), (itob (i64 pa)), (decb pt.toNat), (itob (i64 pi))].map bst), .rd (some ⟨g55, 0, none⟩) 1 5 5 (([[112#8], [46#8, 114#8], [46#8, 97#8], [46#8, 116#8], [46#8, 105#8]]).map bst), .rd (some ⟨g1_58, 0, none⟩) 1 1 1 [(.slice (some ⟨g55, 0, none⟩) 5 5)], .blk g54 9 [(.string (sob (nmk [(itob (i64 pp)), (itob (i64 pr)), (itob (i64 pa)), (decb pt.toNat), (itob (i64 pi))] k)))], .blk g13 46 [(.slice (some ⟨g12, 0, none⟩) 5 5)], .blk g1 24 [(.int .i64 (i64 pp)), (.int .i64 (i64 pr)), (.int .i64 (i64 pa)), (b64 pt), (.int .i64 (i64 pi))]]) (fun _ => False) (fun _ => []) 0 () (by omega) [1, 2, 3, 0, 4, 5] ⟨by decide, rfl⟩ [3, 2] rfl rfl (fun _ _ => rfl) (fun _ => rfl) (fun _ _ => rfl) (fun _ _ => rfl) rfl (fun _ => trivial) ?_ ?_ ?_
  ·
   intro C2 w2 lo2 rs2 l D m k t th rc hrec hk hp
   have hp : k ≤ 5 := hp
   have hk : k < 5 := hk
   have hk5 := hsl k
   have hk6 := hnl k
   have hk7 : (sat ([[112#8], [46#8, 114#8], [46#8, 97#8], [46#8, 116#8], [46#8, 105#8]]) k).length ≤ 2 := marks_le k
   have hF : Wid (Fence.wide.inRound l) := wid_round l
   refine T_re [(4, (.pointer (some ⟨g13, 0, none⟩))), (5, (.pointer (some ⟨g54, 0, none⟩))), (27, (.int .i64 ((k : Nat) : Int))), (28, (.string (sob (sat ([[112#8], [46#8, 114#8], [46#8, 97#8], [46#8, 116#8], [46#8, 105#8]]) k))))] (sc rfl (sc rfl (sc rfl (sc rfl sn)))) ?_
   refine T_he [0, 1, 2, 3, 4, 5, 6, 7] [.obj l (.loop rc), .obj D (.deferred (some [])), .blk g12 9 ([(itob (i64 pp)), (itob (i64 pr)), (itob (i64 pa)), (decb pt.toNat), (itob (i64 pi))].map bst), .rd (some ⟨g55, 0, none⟩) 1 5 5 (([[112#8], [46#8, 114#8], [46#8, 97#8], [46#8, 116#8], [46#8, 105#8]]).map bst), .rd (some ⟨g1_58, 0, none⟩) 1 1 1 [(.slice (some ⟨g55, 0, none⟩) 5 5)], .blk g54 9 [(.string (sob (nmk [(itob (i64 pp)), (itob (i64 pr)), (itob (i64 pa)), (decb pt.toNat), (itob (i64 pi))] k)))], .blk g13 46 [(.slice (some ⟨g12, 0, none⟩) 5 5)], .blk g1 24 [(.int .i64 (i64 pp)), (.int .i64 (i64 pr)), (.int .i64 (i64 pa)), (b64 pt), (.int .i64 (i64 pi))]] ⟨by decide, rfl⟩ ?_
   refine Tsr hF rfl ?_
   refine la rfl rfl rfl rfl rfl ?_
   refine L_nil ?_
   refine T_reg hF rfl ?_
   refine la rfl rfl rfl rfl rfl ?_
   refine L_nil ?_
   refine T_begun 0 rfl hrec ?_
   refine T_block ?_
   refine T_regD [.obj l (.loop { rc with state := .busy }), .obj D (.deferred (some [])), .blk g12 9 ([(itob (i64 pp)), (itob (i64 pr)), (itob (i64 pa)), (decb pt.toNat), (itob (i64 pi))].map bst), .rd (some ⟨g55, 0, none⟩) 1 5 5 (([[112#8], [46#8, 114#8], [46#8, 97#8], [46#8, 116#8], [46#8, 105#8]]).map bst), .rd (some ⟨g1_58, 0, none⟩) 1 1 1 [(.slice (some ⟨g55, 0, none⟩) 5 5)], .blk g54 9 [(.string (sob (nmk [(itob (i64 pp)), (itob (i64 pr)), (itob (i64 pa)), (decb pt.toNat), (itob (i64 pi))] k)))], .blk g13 46 [(.slice (some ⟨g12, 0, none⟩) 5 5)], .blk g1 24 [(.int .i64 (i64 pp)), (.int .i64 (i64 pr)), (.int .i64 (i64 pa)), (b64 pt), (.int .i64 (i64 pi))]] 8 9 #[false, false, false, false, false, false, false, false, false] hF kr kr ?_
   refine D_pure (i := 1) [0, 1, 2, 3, 4, 5, 6, 7] rfl kr rfl (pr_move rfl rfl) (.inr rfl) rfl rfl ?_
   refine D_pure (i := 3) [0, 1, 2, 3, 4, 5, 6, 7] rfl kr rfl (pr_move rfl rfl) (.inr rfl) rfl rfl ?_
   refine D_take (i := 0) [0, 1, 2, 3, 4, 5, 6, 7] rfl kr rfl (ld_blk 5 rfl rfl Tryd.underlying9 rfl rfl rfl) rfl rfl rfl ?_
   refine D_take (i := 2) [0, 1, 2, 3, 4, 5, 6, 7] rfl kr rfl (ld_blk 6 rfl rfl Tryd.underlying46 rfl rfl rfl) rfl rfl rfl ?_
   refine D_pure (i := 4) [0, 1, 2, 3, 4, 5, 6, 7] rfl kr rfl (pr_ixb (j := k) (m' := k) sd (by omega) Tryd.underlying46 (z := 1) kr rfl rfl rfl) (.inr rfl) rfl rfl ?_
   refine D_take (i := 5) [0, 1, 2, 3, 4, 5, 6, 7] rfl kr rfl (ld_blk 2 rfl (getS sd) Tryd.underlying9 rfl rfl rfl) rfl rfl rfl ?_
   refine D_pure (i := 6) [0, 1, 2, 3, 4, 5, 6, 7] rfl kr rfl (pr_stradd (xs := (sat ([[112#8], [46#8, 114#8], [46#8, 97#8], [46#8, 116#8], [46#8, 105#8]]) k)) (ys := (sat [(itob (i64 pp)), (itob (i64 pr)), (itob (i64 pa)), (decb pt.toNat), (itob (i64 pi))] k)) (by first | omega | (simp only [List.length_append, List.length_cons, List.length_nil]; omega) | exact sd) rfl rfl rfl) (.inr rfl) rfl rfl ?_
   refine D_pure (i := 7) [0, 1, 2, 3, 4, 5, 6, 7] rfl kr rfl (pr_stradd (xs := (nmk [(itob (i64 pp)), (itob (i64 pr)), (itob (i64 pa)), (decb pt.toNat), (itob (i64 pi))] k)) (ys := ((sat ([[112#8], [46#8, 114#8], [46#8, 97#8], [46#8, 116#8], [46#8, 105#8]]) k) ++ (sat [(itob (i64 pp)), (itob (i64 pr)), (itob (i64 pa)), (decb pt.toNat), (itob (i64 pi))] k))) (by first | omega | (simp only [List.length_append, List.length_cons, List.length_nil]; omega) | exact sd) rfl rfl rfl) (.inr rfl) rfl rfl ?_
   refine D_one 8 _ rfl kr rfl (op_store (vs := [(.string (sob ((nmk [(itob (i64 pp)), (itob (i64 pr)), (itob (i64 pa)), (decb pt.toNat), (itob (i64 pi))] k) ++ ((sat ([[112#8], [46#8, 114#8], [46#8, 97#8], [46#8, 116#8], [46#8, 105#8]]) k) ++ (sat [(itob (i64 pp)), (itob (i64 pr)), (itob (i64 pa)), (decb pt.toNat), (itob (i64 pi))] k)))))]) (cs' := [(.string (sob ((nmk [(itob (i64 pp)), (itob (i64 pr)), (itob (i64 pa)), (decb pt.toNat), (itob (i64 pi))] k) ++ ((sat ([[112#8], [46#8, 114#8], [46#8, 97#8], [46#8, 116#8], [46#8, 105#8]]) k) ++ (sat [(itob (i64 pp)), (itob (i64 pr)), (itob (i64 pa)), (decb pt.toNat), (itob (i64 pi))] k)))))]) 5 rfl rfl kr (one_one rfl) (by first | decide | simp | exact Nat.le_refl _) rfl rfl rfl rfl rfl ?_)
   refine D_past kr ?_
   refine D_done kr ?_
   refine T_as 0 _ (.blk g54 9 [(.string (sob (nmk [(itob (i64 pp)), (itob (i64 pr)), (itob (i64 pa)), (decb pt.toNat), (itob (i64 pi))] (k + 1))))]) rfl (by rw [nmk_succ]; rfl) ?_
   exact T_on () (by omega) [1, 2, 3, 4, 5, 0, 6, 7] ⟨by decide, rfl⟩
  ·
   intro D t hp
   have hp : 5 ≤ 5 := hp
   refine T_re [(5, (.pointer (some ⟨g54, 0, none⟩)))] (sc rfl sn) ?_
   refine T_he [0, 1, 2, 3, 4, 5, 6] [.obj D (.deferred (some [])), .blk g12 9 ([(itob (i64 pp)), (itob (i64 pr)), (itob (i64 pa)), (decb pt.toNat), (itob (i64 pi))].map bst), .rd (some ⟨g55, 0, none⟩) 1 5 5 (([[112#8], [46#8, 114#8], [46#8, 97#8], [46#8, 116#8], [46#8, 105#8]]).map bst), .rd (some ⟨g1_58, 0, none⟩) 1 1 1 [(.slice (some ⟨g55, 0, none⟩) 5 5)], .blk g54 9 [(.string (sob (nmk [(itob (i64 pp)), (itob (i64 pr)), (itob (i64 pa)), (decb pt.toNat), (itob (i64 pi))] 5)))], .blk g13 46 [(.slice (some ⟨g12, 0, none⟩) 5 5)], .blk g1 24 [(.int .i64 (i64 pp)), (.int .i64 (i64 pr)), (.int .i64 (i64 pa)), (b64 pt), (.int .i64 (i64 pi))]] ⟨by decide, rfl⟩ ?_
   refine Tsr hF rfl ?_
   refine lq rfl (ld_blk 4 rfl rfl Tryd.underlying9 rfl rfl rfl) rfl rfl ?_
   refine la rfl rfl rfl rfl rfl ?_
   refine L_nil ?_
   refine T_ret ?_
   refine T_slot 2 _ (.string (sob (pname (itob (i64 pp)) (itob (i64 pr)) (itob (i64 pa)) (decb pt.toNat) (itob (i64 pi))))) rfl (by unfold pname; rfl) ?_
   exact T_finM 0 rfl () (by first | trivial | omega | (simp; done)) (res1 rfl rfl) [] ⟨by decide, rfl⟩ rfl
  ·
   exact fun D t hq => hq.elim
set_option maxRecDepth 100000 in
set_option maxHeartbeats 4000000 in
theorem rname_f (pp : BitVec 64) (pr : BitVec 64) (pa : BitVec 64) (pt : BitVec 64) (pi : BitVec 64) (w : World) (hO : HOK [] w)  : Calls Tryd.prog 24 [(.agg [(.int .i64 (i64 pp)), (.int .i64 (i64 pr)), (.int .i64 (i64 pa)), (b64 pt), (.int .i64 (i64 pi))].toArray)].toArray w (Ret (T := Unit) [] w (fun _ => True) (fun _ => (.string (sob (pname (itob (i64 pp)) (itob (i64 pr)) (itob (i64 pa)) (decb pt.toNat) (itob (i64 pi)))))) (fun _ => [])) := by
 have hl0 := itob_le pp
 have hl1 := itob_le pr
 have hl2 := itob_le pa
 have hl3 := decb_le pt
 have hl4 := itob_le pi
 have hsl := sat5_le (itob (i64 pp)) (itob (i64 pr)) (itob (i64 pa)) (decb pt.toNat) (itob (i64 pi)) 22 hl0 hl1 hl2 (by omega) hl4
 have hnl := nmk_le [(itob (i64 pp)), (itob (i64 pr)), (itob (i64 pa)), (decb pt.toNat), (itob (i64 pi))] 22 hsl
 have hF : Wid Fence.wide := wid_wide
 refine enter (c := _) Tryd.func24 rfl [] _ [] (by rw [Tryd.ntmps24]; rfl) (own_rds hO rfl) ?_
 rw [Tryd.ntmps24]
 refine T_re [(0, (.agg [(.int .i64 (i64 pp)), (.int .i64 (i64 pr)), (.int .i64 (i64 pa)), (b64 pt), (.int .i64 (i64 pi))].toArray))] (sc rfl sn) ?_
 refine T_he [] [] ⟨by decide, rfl⟩ ?_
 refine Tsr hF rfl ?_
 refine L_op rfl (op_box (zs := [(.int .i64 (i64 pp)), (.int .i64 (i64 pr)), (.int .i64 (i64 pa)), (b64 pt), (.int .i64 (i64 pi))]) rfl rfl rfl rfl rfl (fun g1 => ?_))
 refine la rfl rfl rfl rfl rfl ?_
 refine L_nil ?_
 refine T_seq ?_
 refine T_regD [.blk g1 24 [(.int .i64 (i64 pp)), (.int .i64 (i64 pr)), (.int .i64 (i64 pa)), (b64 pt), (.int .i64 (i64 pi))]] 25 25 #[false, false, false, false, false, false, false, false, false, false, false, false, false, false, false, false, false, false, false, false, false, false, false, false, false] hF kr kr ?_
 refine D_pure (i := 0) [0] rfl kr rfl (pr_fa (m := 0) (m' := 0) (z := 0) (by rfl) Tryd.underlying24 rfl kr rfl rfl) (.inr rfl) rfl rfl ?_
 refine D_pure (i := 5) [0] rfl kr rfl (pr_fa (m := 0) (m' := 1) (z := 0) (by rfl) Tryd.underlying24 rfl kr rfl rfl) (.inr rfl) rfl rfl ?_
 refine D_pure (i := 10) [0] rfl kr rfl (pr_fa (m := 0) (m' := 2) (z := 0) (by rfl) Tryd.underlying24 rfl kr rfl rfl) (.inr rfl) rfl rfl ?_
 refine D_pure (i := 15) [0] rfl kr rfl (pr_fa (m := 0) (m' := 3) (z := 0) (by rfl) Tryd.underlying24 rfl kr rfl rfl) (.inr rfl) rfl rfl ?_
 refine D_pure (i := 20) [0] rfl kr rfl (pr_fa (m := 0) (m' := 4) (z := 0) (by rfl) Tryd.underlying24 rfl kr rfl rfl) (.inr rfl) rfl rfl ?_
 refine D_take (i := 1) [0] rfl kr rfl (ld_blk 0 rfl rfl Tryd.underlying3 rfl rfl rfl) rfl rfl rfl ?_
 refine D_take (i := 6) [0] rfl kr rfl (ld_blk 0 rfl rfl Tryd.underlying3 rfl rfl rfl) rfl rfl rfl ?_
 refine D_take (i := 11) [0] rfl kr rfl (ld_blk 0 rfl rfl Tryd.underlying3 rfl rfl rfl) rfl rfl rfl ?_
 refine D_take (i := 16) [0] rfl kr rfl (ld_blk 0 rfl rfl Tryd.underlying22 rfl rfl rfl) rfl rfl rfl ?_
 refine D_take (i := 21) [0] rfl kr rfl (ld_blk 0 rfl rfl Tryd.underlying3 rfl rfl rfl) rfl rfl rfl ?_
 refine D_one 2 _ rfl kr rfl (op_cn (fun w hw => number8_f pp w (hok_nil w) ) (enters_of Tryd.func35 kr rfl) rfl rfl rfl rfl rfl (fun t2 q3 => ?_))
 refine D_on [0] rfl ?_
 refine D_pure (i := 3) [0] rfl kr rfl (pr_stradd (xs := [112#8]) (ys := (itob (i64 pp))) (by first | omega | (simp only [List.length_append, List.length_cons, List.length_nil]; omega) | exact sd) rfl kr rfl) (.inr rfl) rfl rfl ?_
 refine D_pure (i := 4) [0] rfl kr rfl (pr_stradd (xs := ([112#8] ++ (itob (i64 pp)))) (ys := [46#8, 114#8]) (by first | omega | (simp only [List.length_append, List.length_cons, List.length_nil]; omega) | exact sd) rfl rfl kr) (.inr rfl) rfl rfl ?_
 refine D_one 7 _ rfl kr rfl (op_cn (fun w hw => number8_f pr w (hok_nil w) ) (enters_of Tryd.func35 kr rfl) rfl rfl rfl rfl rfl (fun t4 q5 => ?_))
 refine D_on [0] rfl ?_
 refine D_pure (i := 8) [0] rfl kr rfl (pr_stradd (xs := (([112#8] ++ (itob (i64 pp))) ++ [46#8, 114#8])) (ys := (itob (i64 pr))) (by first | omega | (simp only [List.length_append, List.length_cons, List.length_nil]; omega) | exact sd) rfl rfl rfl) (.inr rfl) rfl rfl ?_
 refine D_pure (i := 9) [0] rfl kr rfl (pr_stradd (xs := ((([112#8] ++ (itob (i64 pp))) ++ [46#8, 114#8]) ++ (itob (i64 pr)))) (ys := [46#8, 97#8]) (by first | omega | (simp only [List.length_append, List.length_cons, List.length_nil]; omega) | exact sd) rfl rfl kr) (.inr rfl) rfl rfl ?_
 refine D_one 12 _ rfl kr rfl (op_cn (fun w hw => number8_f pa w (hok_nil w) ) (enters_of Tryd.func35 kr rfl) rfl rfl rfl rfl rfl (fun t6 q7 => ?_))
 refine D_on [0] rfl ?_
 refine D_pure (i := 13) [0] rfl kr rfl (pr_stradd (xs := (((([112#8] ++ (itob (i64 pp))) ++ [46#8, 114#8]) ++ (itob (i64 pr))) ++ [46#8, 97#8])) (ys := (itob (i64 pa))) (by first | omega | (simp only [List.length_append, List.length_cons, List.length_nil]; omega) | exact sd) rfl rfl rfl) (.inr rfl) rfl rfl ?_
 refine D_pure (i := 14) [0] rfl kr rfl (pr_stradd (xs := ((((([112#8] ++ (itob (i64 pp))) ++ [46#8, 114#8]) ++ (itob (i64 pr))) ++ [46#8, 97#8]) ++ (itob (i64 pa)))) (ys := [46#8, 116#8]) (by first | omega | (simp only [List.length_append, List.length_cons, List.length_nil]; omega) | exact sd) rfl rfl kr) (.inr rfl) rfl rfl ?_
 refine D_one 17 _ rfl kr rfl (op_cn (fun w hw => digits_f pt w (hok_nil w) ) (enters_of Tryd.func36 kr rfl) rfl rfl rfl rfl rfl (fun t8 q9 => ?_))
 refine D_on [0] rfl ?_
 refine D_pure (i := 18) [0] rfl kr rfl (pr_stradd (xs := (((((([112#8] ++ (itob (i64 pp))) ++ [46#8, 114#8]) ++ (itob (i64 pr))) ++ [46#8, 97#8]) ++ (itob (i64 pa))) ++ [46#8, 116#8])) (ys := (decb pt.toNat)) (by first | omega | (simp only [List.length_append, List.length_cons, List.length_nil]; omega) | exact sd) rfl rfl rfl) (.inr rfl) rfl rfl ?_
 refine D_pure (i := 19) [0] rfl kr rfl (pr_stradd (xs := ((((((([112#8] ++ (itob (i64 pp))) ++ [46#8, 114#8]) ++ (itob (i64 pr))) ++ [46#8, 97#8]) ++ (itob (i64 pa))) ++ [46#8, 116#8]) ++ (decb pt.toNat))) (ys := [46#8, 105#8]) (by first | omega | (simp only [List.length_append, List.length_cons, List.length_nil]; omega) | exact sd) rfl rfl kr) (.inr rfl) rfl rfl ?_
 refine D_one 22 _ rfl kr rfl (op_cn (fun w hw => number8_f pi w (hok_nil w) ) (enters_of Tryd.func35 kr rfl) rfl rfl rfl rfl rfl (fun t10 q11 => ?_))
 refine D_on [0] rfl ?_
 refine D_pure (i := 23) [0] rfl kr rfl (pr_stradd (xs := (((((((([112#8] ++ (itob (i64 pp))) ++ [46#8, 114#8]) ++ (itob (i64 pr))) ++ [46#8, 97#8]) ++ (itob (i64 pa))) ++ [46#8, 116#8]) ++ (decb pt.toNat)) ++ [46#8, 105#8])) (ys := (itob (i64 pi))) (by first | omega | (simp only [List.length_append, List.length_cons, List.length_nil]; omega) | exact sd) rfl rfl rfl) (.inr rfl) rfl rfl ?_
 refine D_pure (i := 24) [0] rfl kr rfl (pr_assign rfl rfl) (.inr rfl) rfl rfl ?_
 refine D_done kr ?_
 refine T_ret ?_
 refine T_slot 2 _ (.string (sob (pname (itob (i64 pp)) (itob (i64 pr)) (itob (i64 pa)) (decb pt.toNat) (itob (i64 pi))))) rfl (by rw [pname_eq]) ?_
 exact T_fin () (by first | trivial | omega | (simp; done)) (res1 rfl rfl) [] ⟨by decide, rfl⟩ rfl
end Go.Proofs.YtlplpmkdebemnaaDoor
