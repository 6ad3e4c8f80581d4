/- What package hkdf and its reference answer, by facts. Conditions: lengths far below the greatest. -/
import Derived.Test.YtmhkmamenfmolaaGMac
import Derived.Test.YtmhkmamenfmolaaHkdfP
import Derived.Test.YtmhkmamenfmolaaProg
import Derived.Test.YtmhkmamenfmolaaFwU
namespace Go.Proofs.Ytmhkmamenfmolaa
set_option linter.unusedVariables false
set_option linter.unusedSimpArgs false
set_option linter.unnecessarySimpa false
open Go.RowKit Bv Fw

set_option maxHeartbeats 4000000 in
theorem pieces_seq (key : List (BitVec 8)) (info : List (BitVec 8)) (A : Option Addr) (n : Nat) (c : Nat) (g1 : Nat) (g2 : Nat) (hkl : key.length = 32) (hi : info.length = n) (hn : n ≤ 100000000) : SeqC (Θ := Option Addr) Try.prog 52 [(.pointer (some ⟨g1, 0, none⟩)), (.pointer (some ⟨g2, 0, none⟩))] [.rd (some ⟨g1, 0, none⟩) 1 32 32 (key.map b8), .rd (some ⟨g2, 0, none⟩) 1 1 1 [(.slice A n c)], .rd A 1 n c (info.map b8)] 255 (fun k B => [(.slice B 32 32)]) (fun k B => [.rd B 1 32 32 ((hkpc key info (k + 1)).map b8)]) := by
  have hF : Wid Fence.wide := wid_wide
  refine enter_seq (c := _) Try.func52 rfl (by rw [Try.ntmps52]; rfl) rfl ?_
  intro l J Jx W O R hsJ hsX hy hend
  rw [Try.ntmps52]
  refine T_re [(0, (.func (.yield l) #[] #[])), (1, (.pointer (some ⟨g1, 0, none⟩))), (2, (.pointer (some ⟨g2, 0, none⟩)))] (sc rfl (sc rfl (sc rfl sn))) ?_
  refine T_he [0, 1, 2, 3] [.inv W.heap.size O R (J 0 O R), .rd (some ⟨g1, 0, none⟩) 1 32 32 (key.map b8), .rd (some ⟨g2, 0, none⟩) 1 1 1 [(.slice A n c)], .rd A 1 n c (info.map b8)] ⟨by decide, rfl⟩ ?_
  refine T_seq ?_
  refine T_reg hF rfl ?_
  refine L_op rfl (op_pr (pr_assign rfl rfl) rfl rfl ?_)
  refine L_nil ?_
  refine T_re [(0, (.func (.yield l) #[] #[])), (1, (.pointer (some ⟨g1, 0, none⟩))), (2, (.pointer (some ⟨g2, 0, none⟩))), (4, (.slice none 0 0))] (sc rfl (sc rfl (sc rfl (sc rfl sn)))) ?_
  refine T_he [0, 1, 2, 3] [.inv W.heap.size O R (J 0 O R), .rd (some ⟨g1, 0, none⟩) 1 32 32 (key.map b8), .rd (some ⟨g2, 0, none⟩) 1 1 1 [(.slice A n c)], .rd A 1 n c (info.map b8)] ⟨by decide, rfl⟩ ?_
  refine T_seq ?_
  refine T_reg hF rfl ?_
  refine L_op rfl (op_pr (pr_move rfl rfl) rfl rfl ?_)
  refine L_nil ?_
  refine T_re [(0, (.func (.yield l) #[] #[])), (1, (.pointer (some ⟨g1, 0, none⟩))), (2, (.pointer (some ⟨g2, 0, none⟩))), (4, (.slice none 0 0)), (7, (.int .i64 ((0 : Nat) : Int)))] (sc rfl (sc rfl (sc rfl (sc rfl (sc rfl sn))))) ?_
  refine T_he [0, 1, 2, 3] [.inv W.heap.size O R (J 0 O R), .rd (some ⟨g1, 0, none⟩) 1 32 32 (key.map b8), .rd (some ⟨g2, 0, none⟩) 1 1 1 [(.slice A n c)], .rd A 1 n c (info.map b8)] ⟨by decide, rfl⟩ ?_
  refine T_block ?_
  refine T_rdadd (.rd none 1 0 0 []) rfl rfl rfl rfl (fun w _ => ⟨⟨rfl, Nat.le_refl _, Nat.zero_le _, fun _ => rfl, fun ad h => by cases h⟩, fun ad h => by cases h⟩) (fun r hr => by simp [HA.rids, rid] at hr) ?_
  refine T_as 0 _ (.rd none 1 0 0 ((hkpc key info 0).map b8)) rfl (by rw [hkpc_zero]; rfl) ?_
  refine T_loop (T := Nat × List Nat × List Nat × Option Addr × Nat × Nat) (fun ⟨k, O, R, lA, ln, lc⟩ => k ≤ 255 ∧ (hkpc key info k).length = ln) (fun ⟨k, O, R, lA, ln, lc⟩ => [(0, (.func (.yield l) #[] #[])), (1, (.pointer (some ⟨g1, 0, none⟩))), (2, (.pointer (some ⟨g2, 0, none⟩))), (4, (.slice lA ln lc)), (7, (.int .i64 ((k : Nat) : Int)))]) (fun ⟨k, O, R, lA, ln, lc⟩ => [.inv W.heap.size O R (J k O R), .rd lA 1 ln lc ((hkpc key info k).map b8), .rd (some ⟨g1, 0, none⟩) 1 32 32 (key.map b8), .rd (some ⟨g2, 0, none⟩) 1 1 1 [(.slice A n c)], .rd A 1 n c (info.map b8)]) (fun ⟨k, O, R, lA, ln, lc⟩ => 255 - k) (0, O, R, none, 0, 0) (by simp [hkpc_zero]) (sc rfl (sc rfl (sc rfl (sc rfl (sc rfl sn))))) [1, 0, 2, 3, 4] ⟨by decide, rfl⟩ ?_
  rintro ⟨k, O, R, lA, ln, lc⟩ hp
  have hp : k ≤ 255 ∧ (hkpc key info k).length = ln := hp
  have hle := hkpc_le key info k
  have hpl := hkpc_len key info k
  refine T_re [(0, (.func (.yield l) #[] #[])), (1, (.pointer (some ⟨g1, 0, none⟩))), (2, (.pointer (some ⟨g2, 0, none⟩))), (4, (.slice lA ln lc)), (7, (.int .i64 ((k : Nat) : Int)))] (sc rfl (sc rfl (sc rfl (sc rfl (sc rfl sn))))) ?_
  refine T_he [0, 1, 2, 3, 4] [.inv W.heap.size O R (J k O R), .rd lA 1 ln lc ((hkpc key info k).map b8), .rd (some ⟨g1, 0, none⟩) 1 32 32 (key.map b8), .rd (some ⟨g2, 0, none⟩) 1 1 1 [(.slice A n c)], .rd A 1 n c (info.map b8)] ⟨by decide, rfl⟩ ?_
  refine T_seq ?_
  refine T_reg hF rfl ?_
  refine L_op rfl (op_pr (pr_cmp (bo := .lss) (nc_lt (a := k) (b := 255)) rfl rfl rfl rfl) rfl rfl ?_)
  refine L_nil ?_
  refine T_re [(0, (.func (.yield l) #[] #[])), (1, (.pointer (some ⟨g1, 0, none⟩))), (2, (.pointer (some ⟨g2, 0, none⟩))), (4, (.slice lA ln lc)), (7, (.int .i64 ((k : Nat) : Int))), (8, (.bool (decide (k < 255))))] (sc rfl (sc rfl (sc rfl (sc rfl (sc rfl (sc rfl sn)))))) ?_
  refine T_he [0, 1, 2, 3, 4] [.inv W.heap.size O R (J k O R), .rd lA 1 ln lc ((hkpc key info k).map b8), .rd (some ⟨g1, 0, none⟩) 1 32 32 (key.map b8), .rd (some ⟨g2, 0, none⟩) 1 1 1 [(.slice A n c)], .rd A 1 n c (info.map b8)] ⟨by decide, rfl⟩ ?_
  refine T_seq ?_
  refine T_cond (decide (k < 255)) rfl (fun hc_1 => ?_) (fun hc_1 => ?_)
  · skip
    have hc_1 := of_decide_eq_true hc_1
    refine T_skip ?_
    refine T_seq ?_
    refine T_block ?_
    refine T_seq ?_
    refine T_reg hF rfl ?_
    refine L_op rfl (op_pr (pr_move rfl rfl) rfl rfl ?_)
    refine L_op rfl (op_pr (pr_assign rfl rfl) rfl rfl ?_)
    refine L_nil ?_
    refine T_re [(0, (.func (.yield l) #[] #[])), (1, (.pointer (some ⟨g1, 0, none⟩))), (2, (.pointer (some ⟨g2, 0, none⟩))), (4, (.slice lA ln lc)), (5, (.int .i64 ((k : Nat) : Int))), (7, (.int .i64 ((k : Nat) : Int)))] (sc rfl (sc rfl (sc rfl (sc rfl (sc rfl (sc rfl sn)))))) ?_
    refine T_he [0, 1, 2, 3, 4] [.inv W.heap.size O R (J k O R), .rd lA 1 ln lc ((hkpc key info k).map b8), .rd (some ⟨g1, 0, none⟩) 1 32 32 (key.map b8), .rd (some ⟨g2, 0, none⟩) 1 1 1 [(.slice A n c)], .rd A 1 n c (info.map b8)] ⟨by decide, rfl⟩ ?_
    refine T_seq ?_
    refine T_regD [.inv W.heap.size O R (J k O R), .rd lA 1 ln lc ((hkpc key info k).map b8), .rd (some ⟨g1, 0, none⟩) 1 32 32 (key.map b8), .rd (some ⟨g2, 0, none⟩) 1 1 1 [(.slice A n c)], .rd A 1 n c (info.map b8)] 10 11 #[false, false, false, false, false, false, false, false, false, false, false] hF (by kernel_rfl) (by kernel_rfl) ?_
    refine D_pure (i := 0) [0, 1, 2, 3, 4] rfl (by kernel_rfl) rfl (pr_sla (l := 0) (u := 32) (m := 0) sd sd sd rfl Try.underlying26 (z := 1) (by kernel_rfl) rfl rfl rfl rfl) (.inr rfl) rfl rfl ?_
    refine D_pure (i := 1) [0, 1, 2, 3, 4] rfl (by kernel_rfl) rfl (pr_move rfl rfl) (.inr rfl) rfl rfl ?_
    refine D_pure (i := 3) [0, 1, 2, 3, 4] rfl (by kernel_rfl) rfl (pr_move rfl rfl) (.inr rfl) rfl rfl ?_
    refine D_pure (i := 4) [0, 1, 2, 3, 4] rfl (by kernel_rfl) rfl (pr_add (na_i64 (a := k) (b := 1) sd) rfl rfl rfl) (.inr rfl) rfl rfl ?_
    refine D_pure (i := 5) [0, 1, 2, 3, 4] rfl (by kernel_rfl) rfl (pr_cv (nw8 (k + 1)) Try.underlying3 Try.underlying5 rfl rfl) (.inr rfl) rfl rfl ?_
    refine D_take (i := 2) [0, 1, 2, 3, 4] rfl (by kernel_rfl) rfl (ld_rdb (src_rd 3 rfl) rfl Try.underlying24 rfl rfl rfl) rfl rfl rfl ?_
    refine D_join (T := Nat) (fun _ => True) (fun g7 => [(0, (.func (.yield l) #[] #[])), (1, (.pointer (some ⟨g1, 0, none⟩))), (2, (.pointer (some ⟨g2, 0, none⟩))), (6, (.pointer (some ⟨g7, 0, none⟩))), (7, (.int .i64 ((k : Nat) : Int)))]) (fun g7 => [.blk g7 26 ((hkpc key info (k + 1)).map b8), .inv W.heap.size O R (J k O R), .rd lA 1 ln lc ((hkpc key info k).map b8), .rd (some ⟨g1, 0, none⟩) 1 32 32 (key.map b8), .rd (some ⟨g2, 0, none⟩) 1 1 1 [(.slice A n c)], .rd A 1 n c (info.map b8)]) ?_ ?_
    · skip
      refine D_all [6, 9] (by kernel_rfl) (by simp) ⟨⟨_, rfl, rfl, ?_⟩, ⟨_, rfl, rfl, ?_⟩, trivial⟩
      · skip
        refine id (op_bslice (e := 5) (zs := [(b8 (BitVec.ofNat 8 (k + 1)))]) (qs := [(0, (b8 (BitVec.ofNat 8 (k + 1))))]) (fun _ => by kernel_rfl) rfl rfl rfl rfl (fun g8 => ?_))
        refine D_on [1, 2, 3, 4, 5] rfl ?_
        refine D_all [7, 9] (by kernel_rfl) (by simp) ⟨⟨_, rfl, rfl, ?_⟩, ⟨_, rfl, rfl, ?_⟩, trivial⟩
        · skip
          refine id (op_bslice (e := 24) (zs := [(.slice lA ln lc), (.slice A n c), (.slice (some ⟨g8, 0, none⟩) 1 1)]) (qs := [(0, (.slice lA ln lc)), (1, (.slice A n c)), (2, (.slice (some ⟨g8, 0, none⟩) 1 1))]) (fun _ => by kernel_rfl) rfl rfl rfl rfl (fun g9 => ?_))
          refine D_on [2, 3, 4, 5, 6] rfl ?_
          refine D_all [8, 9] (by kernel_rfl) (by simp) ⟨⟨_, rfl, rfl, ?_⟩, ⟨_, rfl, rfl, ?_⟩, trivial⟩
          · skip
            refine id (op_call0 (vs := [(.slice (some ⟨g1, 0, none⟩) 32 32), (.slice (some ⟨g9, 0, none⟩) 3 3)]) (cap := []) (fun w hw => tag_f key (some ⟨g1, 0, none⟩) 32 32 ([(Pt.mk lA ln lc (hkpc key info k)), (Pt.mk A n c info), (Pt.mk (some ⟨g8, 0, none⟩) 1 1 [(BitVec.ofNat 8 (k + 1))])]) (some ⟨g9, 0, none⟩) 3 3 w (hok_cons ((src_rd 4 rfl) w hw) (hok_cons ((src_full (z := 1) 0 rfl rfl sd sd) w hw) (hok_cons (all_cons ((src_rd 3 rfl) w hw) (all_cons ((src_rd 6 rfl) w hw) (all_cons ((src_full (z := 1) 1 rfl rfl sd sd) w hw) (all_nil w)))) (hok_nil w)))) (by first | assumption | omega | (simp; done) | (simp; omega)) sd sd sd (by first | assumption | omega | (simp only [catp_cons, catp_nil, List.append_nil, List.length_append]; omega) | (simp [catp_cons, catp_nil]; done) | (simp [catp_cons, catp_nil]; omega))) (enters_of Try.func27 (by kernel_rfl) rfl) rfl rfl rfl rfl rfl (fun t10 q11 => ?_))
            refine T_slot 18 (.agg ((mactag key (catp ([(Pt.mk lA ln lc (hkpc key info k)), (Pt.mk A n c info), (Pt.mk (some ⟨g8, 0, none⟩) 1 1 [(BitVec.ofNat 8 (k + 1))])]))).map b8).toArray) (.agg ((hkpc key info (k + 1)).map b8).toArray) rfl (by rw [hkpc_succ]; simp [catp_cons, catp_nil]) ?_
            refine D_on [2, 3, 4, 5, 6] rfl ?_
            refine D_one 9 _ rfl (by kernel_rfl) rfl (op_alloc (z := .agg ((List.replicate 32 0#8).map b8).toArray) (zs := ((List.replicate 32 0#8).map b8)) (by kernel_rfl) rfl rfl rfl rfl (fun g12 => ?_))
            refine D_on [3, 4, 5, 6, 7] rfl ?_
            refine D_one 10 _ rfl (by kernel_rfl) rfl (op_store (vs := ((hkpc key info (k + 1)).map b8)) (cs' := ((hkpc key info (k + 1)).map b8)) 0 rfl rfl (by rw [show (((hkpc key info (k + 1)).map b8)).length = 32 from sd]; kernel_rfl) (all8_one _) (by have h1 : (((List.replicate 32 0#8).map b8)).length = 32 := (by kernel_rfl); have h2 : (((hkpc key info (k + 1)).map b8)).length = 32 := sd; omega) (splice_all (Eq.trans (b := 32) (by kernel_rfl) (Eq.symm sd))) rfl rfl rfl rfl ?_)
            refine D_past (by kernel_rfl) ?_
            refine D_done (by kernel_rfl) ?_
            exact T_meet g12 trivial (sc rfl (sc rfl (sc rfl (sc rfl (sc rfl sn))))) [0, 3, 4, 5, 6, 7] ⟨by decide, rfl⟩
          · skip
            refine id (op_alloc (z := .agg ((List.replicate 32 0#8).map b8).toArray) (zs := ((List.replicate 32 0#8).map b8)) (by kernel_rfl) rfl rfl rfl rfl (fun g13 => ?_))
            refine D_on [3, 4, 5, 6, 7] rfl ?_
            refine D_one 8 _ rfl (by kernel_rfl) rfl (op_call0 (vs := [(.slice (some ⟨g1, 0, none⟩) 32 32), (.slice (some ⟨g9, 0, none⟩) 3 3)]) (cap := []) (fun w hw => tag_f key (some ⟨g1, 0, none⟩) 32 32 ([(Pt.mk lA ln lc (hkpc key info k)), (Pt.mk A n c info), (Pt.mk (some ⟨g8, 0, none⟩) 1 1 [(BitVec.ofNat 8 (k + 1))])]) (some ⟨g9, 0, none⟩) 3 3 w (hok_cons ((src_rd 5 rfl) w hw) (hok_cons ((src_full (z := 1) 1 rfl rfl sd sd) w hw) (hok_cons (all_cons ((src_rd 4 rfl) w hw) (all_cons ((src_rd 7 rfl) w hw) (all_cons ((src_full (z := 1) 2 rfl rfl sd sd) w hw) (all_nil w)))) (hok_nil w)))) (by first | assumption | omega | (simp; done) | (simp; omega)) sd sd sd (by first | assumption | omega | (simp only [catp_cons, catp_nil, List.append_nil, List.length_append]; omega) | (simp [catp_cons, catp_nil]; done) | (simp [catp_cons, catp_nil]; omega))) (enters_of Try.func27 (by kernel_rfl) rfl) rfl rfl rfl rfl rfl (fun t14 q15 => ?_))
            refine T_slot 18 (.agg ((mactag key (catp ([(Pt.mk lA ln lc (hkpc key info k)), (Pt.mk A n c info), (Pt.mk (some ⟨g8, 0, none⟩) 1 1 [(BitVec.ofNat 8 (k + 1))])]))).map b8).toArray) (.agg ((hkpc key info (k + 1)).map b8).toArray) rfl (by rw [hkpc_succ]; simp [catp_cons, catp_nil]) ?_
            refine D_on [3, 4, 5, 6, 7] rfl ?_
            refine D_one 10 _ rfl (by kernel_rfl) rfl (op_store (vs := ((hkpc key info (k + 1)).map b8)) (cs' := ((hkpc key info (k + 1)).map b8)) 0 rfl rfl (by rw [show (((hkpc key info (k + 1)).map b8)).length = 32 from sd]; kernel_rfl) (all8_one _) (by have h1 : (((List.replicate 32 0#8).map b8)).length = 32 := (by kernel_rfl); have h2 : (((hkpc key info (k + 1)).map b8)).length = 32 := sd; omega) (splice_all (Eq.trans (b := 32) (by kernel_rfl) (Eq.symm sd))) rfl rfl rfl rfl ?_)
            refine D_past (by kernel_rfl) ?_
            refine D_done (by kernel_rfl) ?_
            exact T_meet g13 trivial (sc rfl (sc rfl (sc rfl (sc rfl (sc rfl sn))))) [0, 3, 4, 5, 6, 7] ⟨by decide, rfl⟩
        · skip
          refine id (op_alloc (z := .agg ((List.replicate 32 0#8).map b8).toArray) (zs := ((List.replicate 32 0#8).map b8)) (by kernel_rfl) rfl rfl rfl rfl (fun g16 => ?_))
          refine D_on [2, 3, 4, 5, 6] rfl ?_
          refine D_one 7 _ rfl (by kernel_rfl) rfl (op_bslice (e := 24) (zs := [(.slice lA ln lc), (.slice A n c), (.slice (some ⟨g8, 0, none⟩) 1 1)]) (qs := [(0, (.slice lA ln lc)), (1, (.slice A n c)), (2, (.slice (some ⟨g8, 0, none⟩) 1 1))]) (fun _ => by kernel_rfl) rfl rfl rfl rfl (fun g17 => ?_))
          refine D_on [3, 4, 5, 6, 7] rfl ?_
          refine D_one 8 _ rfl (by kernel_rfl) rfl (op_call0 (vs := [(.slice (some ⟨g1, 0, none⟩) 32 32), (.slice (some ⟨g17, 0, none⟩) 3 3)]) (cap := []) (fun w hw => tag_f key (some ⟨g1, 0, none⟩) 32 32 ([(Pt.mk lA ln lc (hkpc key info k)), (Pt.mk A n c info), (Pt.mk (some ⟨g8, 0, none⟩) 1 1 [(BitVec.ofNat 8 (k + 1))])]) (some ⟨g17, 0, none⟩) 3 3 w (hok_cons ((src_rd 5 rfl) w hw) (hok_cons ((src_full (z := 1) 0 rfl rfl sd sd) w hw) (hok_cons (all_cons ((src_rd 4 rfl) w hw) (all_cons ((src_rd 7 rfl) w hw) (all_cons ((src_full (z := 1) 2 rfl rfl sd sd) w hw) (all_nil w)))) (hok_nil w)))) (by first | assumption | omega | (simp; done) | (simp; omega)) sd sd sd (by first | assumption | omega | (simp only [catp_cons, catp_nil, List.append_nil, List.length_append]; omega) | (simp [catp_cons, catp_nil]; done) | (simp [catp_cons, catp_nil]; omega))) (enters_of Try.func27 (by kernel_rfl) rfl) rfl rfl rfl rfl rfl (fun t18 q19 => ?_))
          refine T_slot 18 (.agg ((mactag key (catp ([(Pt.mk lA ln lc (hkpc key info k)), (Pt.mk A n c info), (Pt.mk (some ⟨g8, 0, none⟩) 1 1 [(BitVec.ofNat 8 (k + 1))])]))).map b8).toArray) (.agg ((hkpc key info (k + 1)).map b8).toArray) rfl (by rw [hkpc_succ]; simp [catp_cons, catp_nil]) ?_
          refine D_on [3, 4, 5, 6, 7] rfl ?_
          refine D_one 10 _ rfl (by kernel_rfl) rfl (op_store (vs := ((hkpc key info (k + 1)).map b8)) (cs' := ((hkpc key info (k + 1)).map b8)) 1 rfl rfl (by rw [show (((hkpc key info (k + 1)).map b8)).length = 32 from sd]; kernel_rfl) (all8_one _) (by have h1 : (((List.replicate 32 0#8).map b8)).length = 32 := (by kernel_rfl); have h2 : (((hkpc key info (k + 1)).map b8)).length = 32 := sd; omega) (splice_all (Eq.trans (b := 32) (by kernel_rfl) (Eq.symm sd))) rfl rfl rfl rfl ?_)
          refine D_past (by kernel_rfl) ?_
          refine D_done (by kernel_rfl) ?_
          exact T_meet g16 trivial (sc rfl (sc rfl (sc rfl (sc rfl (sc rfl sn))))) [0, 3, 4, 5, 6, 7] ⟨by decide, rfl⟩
      · skip
        refine id (op_alloc (z := .agg ((List.replicate 32 0#8).map b8).toArray) (zs := ((List.replicate 32 0#8).map b8)) (by kernel_rfl) rfl rfl rfl rfl (fun g20 => ?_))
        refine D_on [1, 2, 3, 4, 5] rfl ?_
        refine D_one 6 _ rfl (by kernel_rfl) rfl (op_bslice (e := 5) (zs := [(b8 (BitVec.ofNat 8 (k + 1)))]) (qs := [(0, (b8 (BitVec.ofNat 8 (k + 1))))]) (fun _ => by kernel_rfl) rfl rfl rfl rfl (fun g21 => ?_))
        refine D_on [2, 3, 4, 5, 6] rfl ?_
        refine D_one 7 _ rfl (by kernel_rfl) rfl (op_bslice (e := 24) (zs := [(.slice lA ln lc), (.slice A n c), (.slice (some ⟨g21, 0, none⟩) 1 1)]) (qs := [(0, (.slice lA ln lc)), (1, (.slice A n c)), (2, (.slice (some ⟨g21, 0, none⟩) 1 1))]) (fun _ => by kernel_rfl) rfl rfl rfl rfl (fun g22 => ?_))
        refine D_on [3, 4, 5, 6, 7] rfl ?_
        refine D_one 8 _ rfl (by kernel_rfl) rfl (op_call0 (vs := [(.slice (some ⟨g1, 0, none⟩) 32 32), (.slice (some ⟨g22, 0, none⟩) 3 3)]) (cap := []) (fun w hw => tag_f key (some ⟨g1, 0, none⟩) 32 32 ([(Pt.mk lA ln lc (hkpc key info k)), (Pt.mk A n c info), (Pt.mk (some ⟨g21, 0, none⟩) 1 1 [(BitVec.ofNat 8 (k + 1))])]) (some ⟨g22, 0, none⟩) 3 3 w (hok_cons ((src_rd 5 rfl) w hw) (hok_cons ((src_full (z := 1) 0 rfl rfl sd sd) w hw) (hok_cons (all_cons ((src_rd 4 rfl) w hw) (all_cons ((src_rd 7 rfl) w hw) (all_cons ((src_full (z := 1) 1 rfl rfl sd sd) w hw) (all_nil w)))) (hok_nil w)))) (by first | assumption | omega | (simp; done) | (simp; omega)) sd sd sd (by first | assumption | omega | (simp only [catp_cons, catp_nil, List.append_nil, List.length_append]; omega) | (simp [catp_cons, catp_nil]; done) | (simp [catp_cons, catp_nil]; omega))) (enters_of Try.func27 (by kernel_rfl) rfl) rfl rfl rfl rfl rfl (fun t23 q24 => ?_))
        refine T_slot 18 (.agg ((mactag key (catp ([(Pt.mk lA ln lc (hkpc key info k)), (Pt.mk A n c info), (Pt.mk (some ⟨g21, 0, none⟩) 1 1 [(BitVec.ofNat 8 (k + 1))])]))).map b8).toArray) (.agg ((hkpc key info (k + 1)).map b8).toArray) rfl (by rw [hkpc_succ]; simp [catp_cons, catp_nil]) ?_
        refine D_on [3, 4, 5, 6, 7] rfl ?_
        refine D_one 10 _ rfl (by kernel_rfl) rfl (op_store (vs := ((hkpc key info (k + 1)).map b8)) (cs' := ((hkpc key info (k + 1)).map b8)) 2 rfl rfl (by rw [show (((hkpc key info (k + 1)).map b8)).length = 32 from sd]; kernel_rfl) (all8_one _) (by have h1 : (((List.replicate 32 0#8).map b8)).length = 32 := (by kernel_rfl); have h2 : (((hkpc key info (k + 1)).map b8)).length = 32 := sd; omega) (splice_all (Eq.trans (b := 32) (by kernel_rfl) (Eq.symm sd))) rfl rfl rfl rfl ?_)
        refine D_past (by kernel_rfl) ?_
        refine D_done (by kernel_rfl) ?_
        exact T_meet g20 trivial (sc rfl (sc rfl (sc rfl (sc rfl (sc rfl sn))))) [0, 3, 4, 5, 6, 7] ⟨by decide, rfl⟩
    · rintro g7 -
      refine T_re [(0, (.func (.yield l) #[] #[])), (1, (.pointer (some ⟨g1, 0, none⟩))), (2, (.pointer (some ⟨g2, 0, none⟩))), (6, (.pointer (some ⟨g7, 0, none⟩))), (7, (.int .i64 ((k : Nat) : Int)))] (sc rfl (sc rfl (sc rfl (sc rfl (sc rfl sn))))) ?_
      refine T_he [0, 1, 2, 3, 4, 5] [.blk g7 26 ((hkpc key info (k + 1)).map b8), .inv W.heap.size O R (J k O R), .rd lA 1 ln lc ((hkpc key info k).map b8), .rd (some ⟨g1, 0, none⟩) 1 32 32 (key.map b8), .rd (some ⟨g2, 0, none⟩) 1 1 1 [(.slice A n c)], .rd A 1 n c (info.map b8)] ⟨by decide, rfl⟩ ?_
      refine T_seq ?_
      refine T_reg hF rfl ?_
      refine L_op rfl (op_pr (pr_sla (l := 0) (u := 32) (m := 0) sd sd sd rfl Try.underlying26 (z := 1) (by kernel_rfl) rfl rfl rfl rfl) rfl rfl ?_)
      refine T_oldb 0 (zs := ((hkpc key info (k + 1)).map b8)) 0 1 32 32 rfl (by simp; omega) (by rw [List.drop_zero, List.take_of_length_le (by simp; omega)]) (by omega) (by omega) ?_
      refine T_tord 0 rfl ?_
      refine L_op rfl (op_pr (pr_assign rfl rfl) rfl rfl ?_)
      refine L_nil ?_
      refine T_re [(0, (.func (.yield l) #[] #[])), (1, (.pointer (some ⟨g1, 0, none⟩))), (2, (.pointer (some ⟨g2, 0, none⟩))), (4, (.slice (some ⟨g7, 0, none⟩) 32 32)), (7, (.int .i64 ((k : Nat) : Int)))] (sc rfl (sc rfl (sc rfl (sc rfl (sc rfl sn))))) ?_
      refine T_he [0, 1, 2, 3, 4, 5] [.rd (some ⟨g7, 0, none⟩) 1 32 32 ((hkpc key info (k + 1)).map b8), .inv W.heap.size O R (J k O R), .rd lA 1 ln lc ((hkpc key info k).map b8), .rd (some ⟨g1, 0, none⟩) 1 32 32 (key.map b8), .rd (some ⟨g2, 0, none⟩) 1 1 1 [(.slice A n c)], .rd A 1 n c (info.map b8)] ⟨by decide, rfl⟩ ?_
      refine T_seq ?_
      refine T_regI ?_
      refine LI_opP hF rfl rfl (op_pr (pr_move rfl rfl) rfl rfl ?_)
      refine LI_opP hF rfl rfl (op_pr (pr_move rfl rfl) rfl rfl ?_)
      refine LI_op rfl (op_yield (k := k) (some ⟨g7, 0, none⟩ : Option Addr) hy sd hsJ hsX 1 rfl [0] rfl rfl rfl rfl rfl rfl rfl rfl rfl (fun _ => trivial) (fun O25 R26 => ?_) (fun O27 R28 => ?_))
      · skip
        refine LI_opP hF rfl rfl (op_pr (pr_un (v := .bool false) rfl rfl rfl) rfl rfl ?_)
        refine LI_nil ?_
        refine T_re [(0, (.func (.yield l) #[] #[])), (1, (.pointer (some ⟨g1, 0, none⟩))), (2, (.pointer (some ⟨g2, 0, none⟩))), (4, (.slice (some ⟨g7, 0, none⟩) 32 32)), (7, (.int .i64 ((k : Nat) : Int))), (23, (.bool false))] (sc rfl (sc rfl (sc rfl (sc rfl (sc rfl (sc rfl sn)))))) ?_
        refine T_he [0, 1, 2, 3, 4, 5] [.inv W.heap.size O25 R26 (J (k + 1) O25 R26), .rd (some ⟨g7, 0, none⟩) 1 32 32 ((hkpc key info (k + 1)).map b8), .rd lA 1 ln lc ((hkpc key info k).map b8), .rd (some ⟨g1, 0, none⟩) 1 32 32 (key.map b8), .rd (some ⟨g2, 0, none⟩) 1 1 1 [(.slice A n c)], .rd A 1 n c (info.map b8)] ⟨by decide, rfl⟩ ?_
        refine T_cond_f rfl ?_
        refine T_skip ?_
        refine T_reg hF rfl ?_
        refine L_op rfl (op_pr (pr_add (na_i64 (a := k) (b := 1) sd) rfl rfl rfl) rfl rfl ?_)
        refine L_op rfl (op_pr (pr_move rfl rfl) rfl rfl ?_)
        refine L_nil ?_
        refine T_re [(0, (.func (.yield l) #[] #[])), (1, (.pointer (some ⟨g1, 0, none⟩))), (2, (.pointer (some ⟨g2, 0, none⟩))), (4, (.slice (some ⟨g7, 0, none⟩) 32 32)), (7, (.int .i64 ((k + 1 : Nat) : Int)))] (sc rfl (sc rfl (sc rfl (sc rfl (sc rfl sn))))) ?_
        refine T_he [0, 1, 2, 3, 4, 5] [.inv W.heap.size O25 R26 (J (k + 1) O25 R26), .rd (some ⟨g7, 0, none⟩) 1 32 32 ((hkpc key info (k + 1)).map b8), .rd lA 1 ln lc ((hkpc key info k).map b8), .rd (some ⟨g1, 0, none⟩) 1 32 32 (key.map b8), .rd (some ⟨g2, 0, none⟩) 1 1 1 [(.slice A n c)], .rd A 1 n c (info.map b8)] ⟨by decide, rfl⟩ ?_
        exact T_again (k + 1, O25, R26, some ⟨g7, 0, none⟩, 32, 32) (by simp; omega) (by first | trivial | ((try dsimp only); first | omega | (refine ⟨?_, ?_⟩ <;> omega) | (refine ⟨?_, ?_, ?_⟩ <;> omega) | (simp; done) | (simp; omega))) (sc rfl (sc rfl (sc rfl (sc rfl (sc rfl sn))))) [0, 1, 3, 4, 5] ⟨by decide, rfl⟩
      · skip
        refine LI_opP hF rfl rfl (op_pr (pr_un (v := .bool true) rfl rfl rfl) rfl rfl ?_)
        refine LI_nil ?_
        refine T_re [(0, (.func (.yield l) #[] #[])), (1, (.pointer (some ⟨g1, 0, none⟩))), (2, (.pointer (some ⟨g2, 0, none⟩))), (4, (.slice (some ⟨g7, 0, none⟩) 32 32)), (7, (.int .i64 ((k : Nat) : Int))), (23, (.bool true))] (sc rfl (sc rfl (sc rfl (sc rfl (sc rfl (sc rfl sn)))))) ?_
        refine T_he [0, 1, 2, 3, 4, 5] [.inv W.heap.size O27 R28 (Jx O27 R28), .rd (some ⟨g7, 0, none⟩) 1 32 32 ((hkpc key info (k + 1)).map b8), .rd lA 1 ln lc ((hkpc key info k).map b8), .rd (some ⟨g1, 0, none⟩) 1 32 32 (key.map b8), .rd (some ⟨g2, 0, none⟩) 1 1 1 [(.slice A n c)], .rd A 1 n c (info.map b8)] ⟨by decide, rfl⟩ ?_
        refine T_cond_t rfl ?_
        refine T_ret ?_
        exact T_finX rfl rfl 0 rfl
  · skip
    have hc_1 := of_decide_eq_false hc_1
    refine T_exit rfl ?_
    obtain rfl : k = 255 := by omega
    exact T_finJ rfl rfl 0 rfl
set_option maxHeartbeats 4000000 in
theorem pieces_f (key : List (BitVec 8)) (A : Option Addr) (n : Nat) (c : Nat) (w : World) (hO : HOK [] w) (hkl : key.length = 32) : Calls Try.prog 44 [(.agg (key.map b8).toArray), (.slice A n c)].toArray w (Ret (T := Nat × Nat) [] w (fun ⟨g1, g2⟩ => True) (fun ⟨g1, g2⟩ => (.func (.func 52) #[] [(.pointer (some ⟨g1, 0, none⟩)), (.pointer (some ⟨g2, 0, none⟩))].toArray)) (fun ⟨g1, g2⟩ => [.old (some ⟨g1, 0, none⟩) 1 32 32 (key.map b8), .old (some ⟨g2, 0, none⟩) 1 1 1 [(.slice A n c)]])) := by
  have hF : Wid Fence.wide := wid_wide
  refine enter (c := _) Try.func44 rfl [] [(.agg (key.map b8).toArray), (.slice A n c)] [] (by rw [Try.ntmps44]; rfl) (own_rds hO rfl) ?_
  rw [Try.ntmps44]
  refine T_re [(0, (.agg (key.map b8).toArray)), (1, (.slice A n c))] (sc rfl (sc rfl sn)) ?_
  refine T_he [] [] ⟨by decide, rfl⟩ ?_
  refine T_seq ?_
  refine T_reg hF rfl ?_
  refine L_op rfl (op_box (zs := (key.map b8)) rfl rfl rfl rfl rfl (fun g1 => ?_))
  refine L_op rfl (op_box (zs := [(.slice A n c)]) rfl rfl rfl rfl rfl (fun g2 => ?_))
  refine L_op rfl (op_pr (pr_assign rfl rfl) rfl rfl ?_)
  refine L_nil ?_
  refine T_re [(2, (.pointer (some ⟨g1, 0, none⟩))), (3, (.pointer (some ⟨g2, 0, none⟩)))] (sc rfl (sc rfl sn)) ?_
  refine T_he [0, 1] [.blk g2 24 [(.slice A n c)], .blk g1 26 (key.map b8)] ⟨by decide, rfl⟩ ?_
  refine T_seq ?_
  refine T_reg hF rfl ?_
  refine L_op rfl (op_pr (pr_mkfn (us := []) (vs := [(.pointer (some ⟨g1, 0, none⟩)), (.pointer (some ⟨g2, 0, none⟩))]) rfl rfl rfl) rfl rfl ?_)
  refine L_op rfl (op_pr (pr_assign rfl rfl) rfl rfl ?_)
  refine L_nil ?_
  refine T_re [(4, (.func (.func 52) #[] [(.pointer (some ⟨g1, 0, none⟩)), (.pointer (some ⟨g2, 0, none⟩))].toArray))] (sc rfl sn) ?_
  refine T_he [0, 1] [.blk g2 24 [(.slice A n c)], .blk g1 26 (key.map b8)] ⟨by decide, rfl⟩ ?_
  refine T_ret ?_
  refine T_oldb 1 (zs := (key.map b8)) 0 1 32 32 rfl sd (by first | rfl | (rw [List.drop_zero, List.take_of_length_le (by simp; omega)]) | simp [List.map_take, List.map_drop]) sd sd ?_
  refine T_oldb 1 (zs := [(.slice A n c)]) 0 1 1 1 rfl rfl rfl sd sd ?_
  exact T_fin (g1, g2) (by first | trivial | omega | (simp; done)) (res1 rfl rfl) [1, 0] ⟨by decide, rfl⟩ rfl
set_option maxHeartbeats 4000000 in
theorem extract_f (salt : List (BitVec 8)) (A : Option Addr) (n : Nat) (c : Nat) (key : List (BitVec 8)) (B : Option Addr) (nt : Nat) (d : Nat) (w : World) (hO : HOK [.rd A 1 n c (salt.map b8), .rd B 1 nt d (key.map b8)] w) (hx : salt.length = n) (hn : n ≤ 900000000) (ht : key.length = nt) (hnt : nt ≤ 900000000) : Calls Try.prog 31 [(.slice A n c), (.slice B nt d)].toArray w (Ret (T := Unit) [] w (fun _ => True) (fun _ => (.agg ((mactag salt key).map b8).toArray)) (fun _ => [])) := by
  have hml := mactag_len salt key
  have hF : Wid Fence.wide := wid_wide
  refine enter (c := _) Try.func31 rfl [] [(.slice A n c), (.slice B nt d)] [.rd A 1 n c (salt.map b8), .rd B 1 nt d (key.map b8)] (by rw [Try.ntmps31]; rfl) (own_rds hO rfl) ?_
  rw [Try.ntmps31]
  refine T_re [(0, (.slice A n c)), (1, (.slice B nt d))] (sc rfl (sc rfl sn)) ?_
  refine T_he [0, 1] [.rd A 1 n c (salt.map b8), .rd B 1 nt d (key.map b8)] ⟨by decide, rfl⟩ ?_
  refine T_seq ?_
  refine T_reg hF rfl ?_
  refine L_op rfl (op_alloc (z := .agg ((List.replicate 32 0#8).map b8).toArray) (zs := ((List.replicate 32 0#8).map b8)) (by kernel_rfl) rfl rfl rfl rfl (fun g1 => ?_))
  refine L_nil ?_
  refine T_re [(0, (.slice A n c)), (1, (.slice B nt d)), (4, (.pointer (some ⟨g1, 0, none⟩)))] (sc rfl (sc rfl (sc rfl sn))) ?_
  refine T_he [0, 1, 2] [.blk g1 26 ((List.replicate 32 0#8).map b8), .rd A 1 n c (salt.map b8), .rd B 1 nt d (key.map b8)] ⟨by decide, rfl⟩ ?_
  refine T_seq ?_
  refine T_reg hF rfl ?_
  refine L_op rfl (op_pr (pr_move rfl rfl) rfl rfl ?_)
  refine L_op rfl (op_pr (pr_move rfl rfl) rfl rfl ?_)
  refine L_op rfl (op_bslice (e := 24) (zs := [(.slice B nt d)]) (qs := [(0, (.slice B nt d))]) (fun _ => by kernel_rfl) rfl rfl rfl rfl (fun g2 => ?_))
  refine L_op rfl (op_call0 (vs := [(.slice A n c), (.slice (some ⟨g2, 0, none⟩) 1 1)]) (cap := []) (fun w hw => tag_f salt A n c [(Pt.mk B nt d key)] (some ⟨g2, 0, none⟩) 1 1 w (hok_cons ((src_rd 2 rfl) w hw) (hok_cons ((src_full (z := 1) 0 rfl rfl sd sd) w hw) (hok_cons (all_cons ((src_rd 3 rfl) w hw) (all_nil w)) (hok_nil w)))) (by first | assumption | omega | (simp; done) | (simp; omega)) sd sd sd (by first | assumption | omega | (simp only [catp_cons, catp_nil, List.append_nil, List.length_append]; omega) | (simp [catp_cons, catp_nil]; done) | (simp [catp_cons, catp_nil]; omega))) (enters_of Try.func27 (by kernel_rfl) rfl) rfl rfl rfl rfl rfl (fun t3 q4 => ?_))
  refine T_slot 8 (.agg ((mactag salt (catp [(Pt.mk B nt d key)])).map b8).toArray) (.agg ((mactag salt key).map b8).toArray) rfl (by simp [catp_cons, catp_nil]) ?_
  refine L_op rfl (op_store (vs := ((mactag salt key).map b8)) (cs' := ((mactag salt key).map b8)) 1 rfl rfl (by rw [show (((mactag salt key).map b8)).length = 32 from sd]; kernel_rfl) (all8_one _) (by have h1 : (((List.replicate 32 0#8).map b8)).length = 32 := (by kernel_rfl); have h2 : (((mactag salt key).map b8)).length = 32 := sd; omega) (splice_all (Eq.trans (b := 32) (by kernel_rfl) (Eq.symm sd))) rfl rfl rfl rfl ?_)
  refine L_nil ?_
  refine T_re [(4, (.pointer (some ⟨g1, 0, none⟩)))] (sc rfl sn) ?_
  refine T_he [0, 1, 2, 3] [.blk g1 26 ((mactag salt key).map b8), .blk g2 24 [(.slice B nt d)], .rd A 1 n c (salt.map b8), .rd B 1 nt d (key.map b8)] ⟨by decide, rfl⟩ ?_
  refine T_ret ?_
  exact T_fin () (by first | trivial | omega | (simp; done)) (resb 0 rfl rfl rfl Try.underlying26 rfl (by rw [show (((mactag salt key).map b8)).length = 32 from sd]; kernel_rfl)) [] ⟨by decide, rfl⟩ rfl
set_option maxHeartbeats 4000000 in
theorem rextract_f (salt : List (BitVec 8)) (A : Option Addr) (n : Nat) (c : Nat) (key : List (BitVec 8)) (B : Option Addr) (nt : Nat) (d : Nat) (w : World) (hO : HOK [.rd A 1 n c (salt.map b8), .rd B 1 nt d (key.map b8)] w) (hx : salt.length = n) (hn : n ≤ 900000000) (ht : key.length = nt) (hnt : nt ≤ 900000000) : Calls Try.prog 33 [(.slice A n c), (.slice B nt d)].toArray w (Ret (T := Unit) [] w (fun _ => True) (fun _ => (.agg ((mactag salt key).map b8).toArray)) (fun _ => [])) := by
  have hml := mactag_len salt key
  have hF : Wid Fence.wide := wid_wide
  refine enter (c := _) Try.func33 rfl [] [(.slice A n c), (.slice B nt d)] [.rd A 1 n c (salt.map b8), .rd B 1 nt d (key.map b8)] (by rw [Try.ntmps33]; rfl) (own_rds hO rfl) ?_
  rw [Try.ntmps33]
  refine T_re [(0, (.slice A n c)), (1, (.slice B nt d))] (sc rfl (sc rfl sn)) ?_
  refine T_he [0, 1] [.rd A 1 n c (salt.map b8), .rd B 1 nt d (key.map b8)] ⟨by decide, rfl⟩ ?_
  refine T_seq ?_
  refine T_reg hF rfl ?_
  refine L_op rfl (op_alloc (z := .agg ((List.replicate 32 0#8).map b8).toArray) (zs := ((List.replicate 32 0#8).map b8)) (by kernel_rfl) rfl rfl rfl rfl (fun g1 => ?_))
  refine L_nil ?_
  refine T_re [(0, (.slice A n c)), (1, (.slice B nt d)), (4, (.pointer (some ⟨g1, 0, none⟩)))] (sc rfl (sc rfl (sc rfl sn))) ?_
  refine T_he [0, 1, 2] [.blk g1 26 ((List.replicate 32 0#8).map b8), .rd A 1 n c (salt.map b8), .rd B 1 nt d (key.map b8)] ⟨by decide, rfl⟩ ?_
  refine T_seq ?_
  refine T_reg hF rfl ?_
  refine L_op rfl (op_pr (pr_move rfl rfl) rfl rfl ?_)
  refine L_op rfl (op_pr (pr_move rfl rfl) rfl rfl ?_)
  refine L_op rfl (op_call0 (vs := [(.slice A n c), (.slice B nt d)]) (cap := []) (fun w hw => rtag_f salt A n c key B nt d w (hok_cons ((src_rd 1 rfl) w hw) (hok_cons ((src_rd 2 rfl) w hw) (hok_nil w))) (by first | assumption | omega | (simp; done) | (simp; omega)) sd (by first | assumption | omega | (simp; done) | (simp; omega)) sd) (enters_of Try.func28 (by kernel_rfl) rfl) rfl rfl rfl rfl rfl (fun t2 q3 => ?_))
  refine L_op rfl (op_store (vs := ((mactag salt key).map b8)) (cs' := ((mactag salt key).map b8)) 0 rfl rfl (by rw [show (((mactag salt key).map b8)).length = 32 from sd]; kernel_rfl) (all8_one _) (by have h1 : (((List.replicate 32 0#8).map b8)).length = 32 := (by kernel_rfl); have h2 : (((mactag salt key).map b8)).length = 32 := sd; omega) (splice_all (Eq.trans (b := 32) (by kernel_rfl) (Eq.symm sd))) rfl rfl rfl rfl ?_)
  refine L_nil ?_
  refine T_re [(4, (.pointer (some ⟨g1, 0, none⟩)))] (sc rfl sn) ?_
  refine T_he [0, 1, 2] [.blk g1 26 ((mactag salt key).map b8), .rd A 1 n c (salt.map b8), .rd B 1 nt d (key.map b8)] ⟨by decide, rfl⟩ ?_
  refine T_ret ?_
  exact T_fin () (by first | trivial | omega | (simp; done)) (resb 0 rfl rfl rfl Try.underlying26 rfl (by rw [show (((mactag salt key).map b8)).length = 32 from sd]; kernel_rfl)) [] ⟨by decide, rfl⟩ rfl
set_option maxHeartbeats 4000000 in
theorem rexpand_f (key : List (BitVec 8)) (info : List (BitVec 8)) (A : Option Addr) (ni : Nat) (c : Nat) (n : Nat) (w : World) (hO : HOK [.rd A 1 ni c (info.map b8)] w) (hkl : key.length = 32) (hi : info.length = ni) (hni : ni ≤ 100000000) (h1 : 1 ≤ n) (h2 : n ≤ 8160) : Calls Try.prog 32 [(.agg (key.map b8).toArray), (.slice A ni c), (.int .i64 ((n : Nat) : Int))].toArray w (Ret (T := Option Addr × Nat) [] w (fun ⟨B, d⟩ => True) (fun ⟨B, d⟩ => (.tuple [(.slice B n d), (.int .i64 ((0 : Nat) : Int))].toArray)) (fun ⟨B, d⟩ => [.row (.slice B n d) 5 1 n ((hkdf key info n).map b8)])) := by
  have hF : Wid Fence.wide := wid_wide
  refine enter (c := _) Try.func32 rfl [] [(.agg (key.map b8).toArray), (.slice A ni c), (.int .i64 ((n : Nat) : Int))] [.rd A 1 ni c (info.map b8)] (by rw [Try.ntmps32]; rfl) (own_rds hO rfl) ?_
  rw [Try.ntmps32]
  refine T_re [(0, (.agg (key.map b8).toArray)), (1, (.slice A ni c)), (2, (.int .i64 ((n : Nat) : Int)))] (sc rfl (sc rfl (sc rfl sn))) ?_
  refine T_he [0] [.rd A 1 ni c (info.map b8)] ⟨by decide, rfl⟩ ?_
  refine T_seq ?_
  refine T_reg hF rfl ?_
  refine L_op rfl (op_box (zs := (key.map b8)) rfl rfl rfl rfl rfl (fun g1 => ?_))
  refine L_op rfl (op_pr (pr_assign rfl rfl) rfl rfl ?_)
  refine L_op rfl (op_pr (pr_assign rfl rfl) rfl rfl ?_)
  refine L_nil ?_
  refine T_re [(1, (.slice A ni c)), (2, (.int .i64 ((n : Nat) : Int))), (3, (.pointer (some ⟨g1, 0, none⟩)))] (sc rfl (sc rfl (sc rfl sn))) ?_
  refine T_he [0, 1] [.blk g1 26 (key.map b8), .rd A 1 ni c (info.map b8)] ⟨by decide, rfl⟩ ?_
  refine T_seq ?_
  refine T_seq ?_
  refine T_reg hF rfl ?_
  refine L_op rfl (op_pr (pr_move rfl rfl) rfl rfl ?_)
  refine L_op rfl (op_pr (pr_cmp (bo := .lss) (nc_lt (a := n) (b := 1)) rfl rfl rfl rfl) rfl rfl ?_)
  refine L_op rfl (op_pr (pr_move rfl rfl) rfl rfl ?_)
  refine T_slot 15 (.bool (decide (n < 1))) (.bool false) rfl (congrArg _ (by simp; omega)) ?_
  refine L_op rfl (op_pr (pr_move rfl rfl) rfl rfl ?_)
  refine L_op rfl (op_pr (pr_cmp (bo := .gtr) (nc_lt (a := 8160) (b := n)) rfl rfl rfl rfl) rfl rfl ?_)
  refine L_op rfl (op_pr (pr_pick_f rfl rfl rfl) rfl rfl ?_)
  refine L_nil ?_
  refine T_re [(1, (.slice A ni c)), (2, (.int .i64 ((n : Nat) : Int))), (3, (.pointer (some ⟨g1, 0, none⟩))), (18, (.bool (decide (8160 < n))))] (sc rfl (sc rfl (sc rfl (sc rfl sn)))) ?_
  refine T_he [0, 1] [.blk g1 26 (key.map b8), .rd A 1 ni c (info.map b8)] ⟨by decide, rfl⟩ ?_
  refine T_cond_no (t := decide (8160 < n)) rfl (by simp; omega) ?_
  refine T_skip ?_
  refine T_seq ?_
  refine T_reg hF rfl ?_
  refine L_op rfl (op_pr (pr_assign rfl rfl) rfl rfl ?_)
  refine L_op rfl (op_pr (pr_assign rfl rfl) rfl rfl ?_)
  refine L_nil ?_
  refine T_re [(1, (.slice A ni c)), (2, (.int .i64 ((n : Nat) : Int))), (3, (.pointer (some ⟨g1, 0, none⟩))), (8, (.slice none 0 0)), (9, (.slice none 0 0))] (sc rfl (sc rfl (sc rfl (sc rfl (sc rfl sn))))) ?_
  refine T_he [0, 1] [.blk g1 26 (key.map b8), .rd A 1 ni c (info.map b8)] ⟨by decide, rfl⟩ ?_
  refine T_seq ?_
  refine T_seq ?_
  refine T_reg hF rfl ?_
  refine L_op rfl (op_pr (pr_assign rfl rfl) rfl rfl ?_)
  refine L_nil ?_
  refine T_re [(1, (.slice A ni c)), (2, (.int .i64 ((n : Nat) : Int))), (3, (.pointer (some ⟨g1, 0, none⟩))), (8, (.slice none 0 0)), (9, (.slice none 0 0)), (10, (.int .i64 ((1 : Nat) : Int)))] (sc rfl (sc rfl (sc rfl (sc rfl (sc rfl (sc rfl sn)))))) ?_
  refine T_he [0, 1] [.blk g1 26 (key.map b8), .rd A 1 ni c (info.map b8)] ⟨by decide, rfl⟩ ?_
  refine T_block ?_
  refine T_nilrow 5 1 ?_
  refine T_as 0 _ (.row (.slice none 0 0) 5 1 0 ((hkpc key info 0).map b8)) rfl (by rw [hkpc_zero]; rfl) ?_
  refine T_nilrow 5 1 ?_
  refine T_as 0 _ (.row (.slice none 0 0) 5 1 0 ((hkout key info 0).map b8)) rfl (by rw [hkout_zero]; rfl) ?_
  refine T_slot 8 (.slice none 0 0) (.slice none (32 * 0) 0) rfl (by first | rfl | (congr 2; omega) | (simp; omega)) ?_
  refine T_slot 10 (.int .i64 ((1 : Nat) : Int)) (.int .i64 ((0 + 1 : Nat) : Int)) rfl (by first | rfl | (congr 2; omega) | (simp; omega)) ?_
  refine T_as 0 (.row (.slice none 0 0) 5 1 0 ((hkout key info 0).map b8)) (.row (.slice none (32 * 0) 0) 5 1 (32 * 0) ((hkout key info 0).map b8)) rfl (by first | rfl | simp | (congr 1; simp)) ?_
  refine T_loop (T := Nat × Option Addr × Nat × Option Addr × Nat × Nat) (fun ⟨k, A1, c1, A2, ln, c2⟩ => 32 * k < n + 32 ∧ (hkpc key info k).length = ln) (fun ⟨k, A1, c1, A2, ln, c2⟩ => [(1, (.slice A ni c)), (2, (.int .i64 ((n : Nat) : Int))), (3, (.pointer (some ⟨g1, 0, none⟩))), (8, (.slice A1 (32 * k) c1)), (9, (.slice A2 ln c2)), (10, (.int .i64 ((k + 1 : Nat) : Int)))]) (fun ⟨k, A1, c1, A2, ln, c2⟩ => [.row (.slice A1 (32 * k) c1) 5 1 (32 * k) ((hkout key info k).map b8), .row (.slice A2 ln c2) 5 1 ln ((hkpc key info k).map b8), .blk g1 26 (key.map b8), .rd A 1 ni c (info.map b8)]) (fun ⟨k, A1, c1, A2, ln, c2⟩ => n + 32 - 32 * k) (0, none, 0, none, 0, 0) (by simp [hkpc_zero]) (sc rfl (sc rfl (sc rfl (sc rfl (sc rfl (sc rfl sn)))))) [0, 1, 2, 3] ⟨by decide, rfl⟩ ?_
  rintro ⟨k, A1, c1, A2, ln, c2⟩ hp
  have hp : 32 * k < n + 32 ∧ (hkpc key info k).length = ln := hp
  have hle := hkpc_le key info k
  have hpl := hkpc_len key info k
  have hol := hkout_len key info k
  refine T_re [(1, (.slice A ni c)), (2, (.int .i64 ((n : Nat) : Int))), (3, (.pointer (some ⟨g1, 0, none⟩))), (8, (.slice A1 (32 * k) c1)), (9, (.slice A2 ln c2)), (10, (.int .i64 ((k + 1 : Nat) : Int)))] (sc rfl (sc rfl (sc rfl (sc rfl (sc rfl (sc rfl sn)))))) ?_
  refine T_he [0, 1, 2, 3] [.row (.slice A1 (32 * k) c1) 5 1 (32 * k) ((hkout key info k).map b8), .row (.slice A2 ln c2) 5 1 ln ((hkpc key info k).map b8), .blk g1 26 (key.map b8), .rd A 1 ni c (info.map b8)] ⟨by decide, rfl⟩ ?_
  refine T_seq ?_
  refine T_seq ?_
  refine T_reg hF rfl ?_
  refine L_op rfl (op_pr (pr_move rfl rfl) rfl rfl ?_)
  refine L_op rfl (op_pr (pr_len_sl Try.underlying24 rfl rfl) rfl rfl ?_)
  refine L_op rfl (op_pr (pr_move rfl rfl) rfl rfl ?_)
  refine L_op rfl (op_pr (pr_cmp (bo := .lss) (nc_lt (a := 32 * k) (b := n)) rfl rfl rfl rfl) rfl rfl ?_)
  refine L_nil ?_
  refine T_re [(1, (.slice A ni c)), (2, (.int .i64 ((n : Nat) : Int))), (3, (.pointer (some ⟨g1, 0, none⟩))), (8, (.slice A1 (32 * k) c1)), (9, (.slice A2 ln c2)), (10, (.int .i64 ((k + 1 : Nat) : Int))), (22, (.bool (decide (32 * k < n))))] (sc rfl (sc rfl (sc rfl (sc rfl (sc rfl (sc rfl (sc rfl sn))))))) ?_
  refine T_he [0, 1, 2, 3] [.row (.slice A1 (32 * k) c1) 5 1 (32 * k) ((hkout key info k).map b8), .row (.slice A2 ln c2) 5 1 ln ((hkpc key info k).map b8), .blk g1 26 (key.map b8), .rd A 1 ni c (info.map b8)] ⟨by decide, rfl⟩ ?_
  refine T_cond (decide (32 * k < n)) rfl (fun hc_3 => ?_) (fun hc_3 => ?_)
  · skip
    have hc_3 := of_decide_eq_true hc_3
    refine T_skip ?_
    refine T_seq ?_
    refine T_block ?_
    refine T_seq ?_
    refine T_reg hF rfl ?_
    refine L_op rfl (op_pr (pr_move rfl rfl) rfl rfl ?_)
    refine T_nilrow 5 1 ?_
    refine L_op rfl (op_append (z := (b8 (0#8))) (size := 1) (bytes := 1) 0 rfl Try.underlying24 (by kernel_rfl) (by kernel_rfl) (by decide) (src_row 2 rfl) (all8_one _) sd sd rfl rfl rfl rfl rfl (fun A4 C5 => ?_))
    refine T_as 0 (.row (.slice A4 (0 + ln) C5) 5 1 (0 + ln) ([] ++ ((hkpc key info k).map b8))) (.row (.slice A4 (0 + ln) C5) 5 1 (0 + ln) ((hkpc key info k).map b8)) rfl (by first | rfl | (congr 1; simp; done) | (simp only [List.map_append]; rfl) | (rw [List.map_append]; rfl)) ?_
    refine L_op rfl (op_pr (pr_move rfl rfl) rfl rfl ?_)
    refine L_op rfl (op_append (z := (b8 (0#8))) (size := 1) (bytes := 1) 0 rfl Try.underlying24 (by kernel_rfl) (by kernel_rfl) (by decide) (src_rd 4 rfl) (all8_one _) sd sd rfl rfl rfl rfl rfl (fun A6 C7 => ?_))
    refine T_as 0 (.row (.slice A6 (0 + ln + ni) C7) 5 1 (0 + ln + ni) (((hkpc key info k).map b8) ++ (info.map b8))) (.row (.slice A6 (0 + ln + ni) C7) 5 1 (0 + ln + ni) (((hkpc key info k) ++ info).map b8)) rfl (by first | rfl | (congr 1; simp; done) | (simp only [List.map_append]; rfl) | (rw [List.map_append]; rfl)) ?_
    refine L_op rfl (op_pr (pr_move rfl rfl) rfl rfl ?_)
    refine L_op rfl (op_pr (pr_cv (nw8 (k + 1)) Try.underlying3 Try.underlying5 rfl rfl) rfl rfl ?_)
    refine L_op rfl (op_bslice (e := 5) (zs := [(b8 (BitVec.ofNat 8 (k + 1)))]) (qs := [(0, (b8 (BitVec.ofNat 8 (k + 1))))]) (fun _ => by kernel_rfl) rfl rfl rfl rfl (fun g8 => ?_))
    refine L_op rfl (op_append (z := (b8 (0#8))) (size := 1) (bytes := 1) 1 rfl Try.underlying24 (by kernel_rfl) (by kernel_rfl) (by decide) (src_full (z := 1) 0 rfl rfl sd sd) (by simp [Value.oneCell']) sd sd rfl rfl rfl rfl rfl (fun A9 C10 => ?_))
    refine T_as 0 (.row (.slice A9 (0 + ln + ni + 1) C10) 5 1 (0 + ln + ni + 1) ((((hkpc key info k) ++ info).map b8) ++ [(b8 (BitVec.ofNat 8 (k + 1)))])) (.row (.slice A9 (0 + ln + ni + 1) C10) 5 1 (0 + ln + ni + 1) ((((hkpc key info k) ++ info) ++ [(BitVec.ofNat 8 (k + 1))]).map b8)) rfl (by first | rfl | (congr 1; simp; done) | (simp only [List.map_append]; rfl) | (rw [List.map_append]; rfl)) ?_
    refine L_op rfl (op_pr (pr_assign rfl rfl) rfl rfl ?_)
    refine L_nil ?_
    refine T_re [(1, (.slice A ni c)), (2, (.int .i64 ((n : Nat) : Int))), (3, (.pointer (some ⟨g1, 0, none⟩))), (8, (.slice A1 (32 * k) c1)), (10, (.int .i64 ((k + 1 : Nat) : Int))), (11, (.slice A9 (0 + ln + ni + 1) C10))] (sc rfl (sc rfl (sc rfl (sc rfl (sc rfl (sc rfl sn)))))) ?_
    refine T_he [0, 1, 2, 3, 4, 5] [.row (.slice A9 (0 + ln + ni + 1) C10) 5 1 (0 + ln + ni + 1) ((((hkpc key info k) ++ info) ++ [(BitVec.ofNat 8 (k + 1))]).map b8), .blk g8 5 [(b8 (BitVec.ofNat 8 (k + 1)))], .row (.slice A1 (32 * k) c1) 5 1 (32 * k) ((hkout key info k).map b8), .row (.slice A2 ln c2) 5 1 ln ((hkpc key info k).map b8), .blk g1 26 (key.map b8), .rd A 1 ni c (info.map b8)] ⟨by decide, rfl⟩ ?_
    refine T_seq ?_
    refine T_reg hF rfl ?_
    refine L_op rfl (op_pr (pr_sla (l := 0) (u := 32) (m := 0) sd sd sd rfl Try.underlying26 (z := 1) (by kernel_rfl) rfl rfl rfl rfl) rfl rfl ?_)
    refine L_op rfl (op_pr (pr_move rfl rfl) rfl rfl ?_)
    refine L_op rfl (op_call0 (vs := [(.slice (some ⟨g1, 0, none⟩) 32 32), (.slice A9 (0 + ln + ni + 1) C10)]) (cap := []) (fun w hw => rtag_f key (some ⟨g1, 0, none⟩) 32 32 (((hkpc key info k) ++ info) ++ [(BitVec.ofNat 8 (k + 1))]) A9 (0 + ln + ni + 1) C10 w (hok_cons ((src_full (z := 1) 4 rfl sd sd sd) w hw) (hok_cons ((src_row 0 rfl) w hw) (hok_nil w))) (by first | assumption | omega | (simp; done) | (simp; omega)) sd (by first | assumption | omega | (simp; done) | (simp; omega)) sd) (enters_of Try.func28 (by kernel_rfl) rfl) rfl rfl rfl rfl rfl (fun t11 q12 => ?_))
    refine T_slot 35 (.agg ((mactag key (((hkpc key info k) ++ info) ++ [(BitVec.ofNat 8 (k + 1))])).map b8).toArray) (.agg ((hkpc key info (k + 1)).map b8).toArray) rfl (by rw [hkpc_succ]) ?_
    refine L_op rfl (op_alloc (z := .agg ((List.replicate 32 0#8).map b8).toArray) (zs := ((List.replicate 32 0#8).map b8)) (by kernel_rfl) rfl rfl rfl rfl (fun g13 => ?_))
    refine L_op rfl (op_store (vs := ((hkpc key info (k + 1)).map b8)) (cs' := ((hkpc key info (k + 1)).map b8)) 0 rfl rfl (by rw [show (((hkpc key info (k + 1)).map b8)).length = 32 from sd]; kernel_rfl) (all8_one _) (by have h1 : (((List.replicate 32 0#8).map b8)).length = 32 := (by kernel_rfl); have h2 : (((hkpc key info (k + 1)).map b8)).length = 32 := sd; omega) (splice_all (Eq.trans (b := 32) (by kernel_rfl) (Eq.symm sd))) rfl rfl rfl rfl ?_)
    refine L_nil ?_
    refine T_re [(1, (.slice A ni c)), (2, (.int .i64 ((n : Nat) : Int))), (3, (.pointer (some ⟨g1, 0, none⟩))), (8, (.slice A1 (32 * k) c1)), (10, (.int .i64 ((k + 1 : Nat) : Int))), (12, (.pointer (some ⟨g13, 0, none⟩)))] (sc rfl (sc rfl (sc rfl (sc rfl (sc rfl (sc rfl sn)))))) ?_
    refine T_he [0, 1, 2, 3, 4, 5, 6] [.blk g13 26 ((hkpc key info (k + 1)).map b8), .row (.slice A9 (0 + ln + ni + 1) C10) 5 1 (0 + ln + ni + 1) ((((hkpc key info k) ++ info) ++ [(BitVec.ofNat 8 (k + 1))]).map b8), .blk g8 5 [(b8 (BitVec.ofNat 8 (k + 1)))], .row (.slice A1 (32 * k) c1) 5 1 (32 * k) ((hkout key info k).map b8), .row (.slice A2 ln c2) 5 1 ln ((hkpc key info k).map b8), .blk g1 26 (key.map b8), .rd A 1 ni c (info.map b8)] ⟨by decide, rfl⟩ ?_
    refine T_seq ?_
    refine T_reg hF rfl ?_
    refine L_op rfl (op_pr (pr_sla (l := 0) (u := 32) (m := 0) sd sd sd rfl Try.underlying26 (z := 1) (by kernel_rfl) rfl rfl rfl rfl) rfl rfl ?_)
    refine T_nilrow 5 1 ?_
    refine L_op rfl (op_append (z := (b8 (0#8))) (size := 1) (bytes := 1) 0 rfl Try.underlying24 (by kernel_rfl) (by kernel_rfl) (by decide) (src_full (z := 1) 1 rfl sd sd sd) (all8_one _) sd sd rfl rfl rfl rfl rfl (fun A14 C15 => ?_))
    refine T_as 0 (.row (.slice A14 (0 + 32) C15) 5 1 (0 + 32) ([] ++ ((hkpc key info (k + 1)).map b8))) (.row (.slice A14 32 C15) 5 1 32 ((hkpc key info (k + 1)).map b8)) rfl (by first | rfl | (congr 1; simp; done) | (simp only [List.map_append]; rfl) | (rw [List.map_append]; rfl)) ?_
    refine T_slot 37 (.slice A14 (0 + 32) C15) (.slice A14 32 C15) rfl rfl ?_
    refine L_op rfl (op_pr (pr_assign rfl rfl) rfl rfl ?_)
    refine L_nil ?_
    refine T_re [(1, (.slice A ni c)), (2, (.int .i64 ((n : Nat) : Int))), (3, (.pointer (some ⟨g1, 0, none⟩))), (8, (.slice A1 (32 * k) c1)), (9, (.slice A14 32 C15)), (10, (.int .i64 ((k + 1 : Nat) : Int)))] (sc rfl (sc rfl (sc rfl (sc rfl (sc rfl (sc rfl sn)))))) ?_
    refine T_he [0, 1, 2, 3, 4, 5, 6, 7] [.row (.slice A14 32 C15) 5 1 32 ((hkpc key info (k + 1)).map b8), .blk g13 26 ((hkpc key info (k + 1)).map b8), .row (.slice A9 (0 + ln + ni + 1) C10) 5 1 (0 + ln + ni + 1) ((((hkpc key info k) ++ info) ++ [(BitVec.ofNat 8 (k + 1))]).map b8), .blk g8 5 [(b8 (BitVec.ofNat 8 (k + 1)))], .row (.slice A1 (32 * k) c1) 5 1 (32 * k) ((hkout key info k).map b8), .row (.slice A2 ln c2) 5 1 ln ((hkpc key info k).map b8), .blk g1 26 (key.map b8), .rd A 1 ni c (info.map b8)] ⟨by decide, rfl⟩ ?_
    refine T_reg hF rfl ?_
    refine L_op rfl (op_pr (pr_move rfl rfl) rfl rfl ?_)
    refine L_op rfl (op_pr (pr_move rfl rfl) rfl rfl ?_)
    refine L_op rfl (op_append (z := (b8 (0#8))) (size := 1) (bytes := 1) 4 rfl Try.underlying24 (by kernel_rfl) (by kernel_rfl) (by decide) (src_row 0 rfl) (all8_one _) sd sd rfl rfl rfl rfl rfl (fun A16 C17 => ?_))
    refine T_as 0 (.row (.slice A16 (32 * k + 32) C17) 5 1 (32 * k + 32) (((hkout key info k).map b8) ++ ((hkpc key info (k + 1)).map b8))) (.row (.slice A16 (32 * k + 32) C17) 5 1 (32 * k + 32) (((hkout key info k) ++ (hkpc key info (k + 1))).map b8)) rfl (by first | rfl | (congr 1; simp; done) | (simp only [List.map_append]; rfl) | (rw [List.map_append]; rfl)) ?_
    refine L_op rfl (op_pr (pr_assign rfl rfl) rfl rfl ?_)
    refine L_nil ?_
    refine T_re [(1, (.slice A ni c)), (2, (.int .i64 ((n : Nat) : Int))), (3, (.pointer (some ⟨g1, 0, none⟩))), (8, (.slice A16 (32 * k + 32) C17)), (9, (.slice A14 32 C15)), (10, (.int .i64 ((k + 1 : Nat) : Int)))] (sc rfl (sc rfl (sc rfl (sc rfl (sc rfl (sc rfl sn)))))) ?_
    refine T_he [0, 1, 2, 3, 4, 5, 6, 7] [.row (.slice A16 (32 * k + 32) C17) 5 1 (32 * k + 32) (((hkout key info k) ++ (hkpc key info (k + 1))).map b8), .row (.slice A14 32 C15) 5 1 32 ((hkpc key info (k + 1)).map b8), .blk g13 26 ((hkpc key info (k + 1)).map b8), .row (.slice A9 (0 + ln + ni + 1) C10) 5 1 (0 + ln + ni + 1) ((((hkpc key info k) ++ info) ++ [(BitVec.ofNat 8 (k + 1))]).map b8), .blk g8 5 [(b8 (BitVec.ofNat 8 (k + 1)))], .row (.slice A2 ln c2) 5 1 ln ((hkpc key info k).map b8), .blk g1 26 (key.map b8), .rd A 1 ni c (info.map b8)] ⟨by decide, rfl⟩ ?_
    refine T_reg hF rfl ?_
    refine L_op rfl (op_pr (pr_move rfl rfl) rfl rfl ?_)
    refine L_op rfl (op_pr (pr_add (na_i64 (a := k + 1) (b := 1) sd) rfl rfl rfl) rfl rfl ?_)
    refine L_op rfl (op_pr (pr_assign rfl rfl) rfl rfl ?_)
    refine L_nil ?_
    refine T_re [(1, (.slice A ni c)), (2, (.int .i64 ((n : Nat) : Int))), (3, (.pointer (some ⟨g1, 0, none⟩))), (8, (.slice A16 (32 * k + 32) C17)), (9, (.slice A14 32 C15)), (10, (.int .i64 ((k + 1 + 1 : Nat) : Int)))] (sc rfl (sc rfl (sc rfl (sc rfl (sc rfl (sc rfl sn)))))) ?_
    refine T_he [0, 1, 2, 3, 4, 5, 6, 7] [.row (.slice A16 (32 * k + 32) C17) 5 1 (32 * k + 32) (((hkout key info k) ++ (hkpc key info (k + 1))).map b8), .row (.slice A14 32 C15) 5 1 32 ((hkpc key info (k + 1)).map b8), .blk g13 26 ((hkpc key info (k + 1)).map b8), .row (.slice A9 (0 + ln + ni + 1) C10) 5 1 (0 + ln + ni + 1) ((((hkpc key info k) ++ info) ++ [(BitVec.ofNat 8 (k + 1))]).map b8), .blk g8 5 [(b8 (BitVec.ofNat 8 (k + 1)))], .row (.slice A2 ln c2) 5 1 ln ((hkpc key info k).map b8), .blk g1 26 (key.map b8), .rd A 1 ni c (info.map b8)] ⟨by decide, rfl⟩ ?_
    refine T_slot 8 (.slice A16 (32 * k + 32) C17) (.slice A16 (32 * (k + 1)) C17) rfl (by congr 1) ?_
    refine T_slot 10 (.int .i64 ((k + 1 + 1 : Nat) : Int)) (.int .i64 (((k + 1) + 1 : Nat) : Int)) rfl (by congr 1) ?_
    refine T_as 0 (.row (.slice A16 (32 * k + 32) C17) 5 1 (32 * k + 32) (((hkout key info k) ++ (hkpc key info (k + 1))).map b8)) (.row (.slice A16 (32 * (k + 1)) C17) 5 1 (32 * (k + 1)) ((hkout key info (k + 1)).map b8)) rfl (by rw [hkout_succ]; congr 1) ?_
    exact T_again (k + 1, A16, C17, A14, 32, C15) (by simp; omega) (by dsimp only; omega) (sc rfl (sc rfl (sc rfl (sc rfl (sc rfl (sc rfl sn)))))) [0, 1, 6, 7] ⟨by decide, rfl⟩
  · skip
    have hc_3 := of_decide_eq_false hc_3
    refine T_exit rfl ?_
    refine T_seq ?_
    refine T_reg hF rfl ?_
    refine L_op rfl (op_pr (pr_move rfl rfl) rfl rfl ?_)
    refine L_op rfl (op_pr (pr_move rfl rfl) rfl rfl ?_)
    refine L_op rfl (op_reslice (u := n) 0 rfl sd Try.underlying24 (by kernel_rfl) rfl rfl rfl rfl rfl ?_)
    refine T_as 0 (.row (.slice A1 n c1) 5 1 n (List.take (n * 1) ((hkout key info k).map b8))) (.row (.slice A1 n c1) 5 1 n ((List.take n (hkout key info k)).map b8)) rfl (by first | rfl | (congr 1; simp [List.map_take])) ?_
    refine L_op rfl (op_pr (pr_assign rfl rfl) rfl rfl ?_)
    refine L_op rfl (op_pr (pr_assign rfl rfl) rfl rfl ?_)
    refine L_nil ?_
    refine T_re [(6, (.slice A1 n c1)), (7, (.int .i64 ((0 : Nat) : Int)))] (sc rfl (sc rfl sn)) ?_
    refine T_he [0, 1, 2, 3] [.row (.slice A1 n c1) 5 1 n ((List.take n (hkout key info k)).map b8), .row (.slice A2 ln c2) 5 1 ln ((hkpc key info k).map b8), .blk g1 26 (key.map b8), .rd A 1 ni c (info.map b8)] ⟨by decide, rfl⟩ ?_
    refine T_ret ?_
    refine T_as 0 (.row (.slice A1 n c1) 5 1 n ((List.take n (hkout key info k)).map b8)) (.row (.slice A1 n c1) 5 1 n ((hkdf key info n).map b8)) rfl (by rw [hkdf_of key info n k (by omega) (by omega)]) ?_
    exact T_fin (A1, c1) (by first | trivial | omega | (simp; done)) (res2 rfl rfl rfl) [0] ⟨by decide, rfl⟩ rfl
set_option maxHeartbeats 4000000 in
theorem expand_f (key : List (BitVec 8)) (info : List (BitVec 8)) (A : Option Addr) (ni : Nat) (c : Nat) (n : Nat) (w : World) (hO : HOK [.rd A 1 ni c (info.map b8)] w) (hkl : key.length = 32) (hi : info.length = ni) (hni : ni ≤ 100000000) (h1 : 1 ≤ n) (h2 : n ≤ 8160) : Calls Try.prog 30 [(.agg (key.map b8).toArray), (.slice A ni c), (.int .i64 ((n : Nat) : Int))].toArray w (Ret (T := Option Addr) [] w (fun B => True) (fun B => (.tuple [(.slice B n n), (.int .i64 ((0 : Nat) : Int))].toArray)) (fun B => [.old B 1 n n ((hkdf key info n).map b8)])) := by
  have hF : Wid Fence.wide := wid_wide
  refine enter_m (c := _) Try.func30 rfl [] [(.agg (key.map b8).toArray), (.slice A ni c), (.int .i64 ((n : Nat) : Int))] [.rd A 1 ni c (info.map b8)] (by rw [Try.ntmps30]; rfl) (own_rds hO rfl) ?_
  rw [Try.ntmps30]
  refine T_re [(0, (.agg (key.map b8).toArray)), (1, (.slice A ni c)), (2, (.int .i64 ((n : Nat) : Int)))] (sc rfl (sc rfl (sc rfl sn))) ?_
  refine T_he [0] [.rd A 1 ni c (info.map b8)] ⟨by decide, rfl⟩ ?_
  refine T_seq ?_
  refine T_reg hF rfl ?_
  refine L_op rfl (op_box (zs := (key.map b8)) rfl rfl rfl rfl rfl (fun g1 => ?_))
  refine L_op rfl (op_box (zs := [(.int .i64 ((n : Nat) : Int))]) rfl rfl rfl rfl rfl (fun g2 => ?_))
  refine L_op rfl (op_pr (pr_assign rfl rfl) rfl rfl ?_)
  refine L_op rfl (op_pr (pr_assign rfl rfl) rfl rfl ?_)
  refine L_nil ?_
  refine T_re [(1, (.slice A ni c)), (3, (.pointer (some ⟨g1, 0, none⟩))), (5, (.pointer (some ⟨g2, 0, none⟩)))] (sc rfl (sc rfl (sc rfl sn))) ?_
  refine T_he [0, 1, 2] [.blk g2 3 [(.int .i64 ((n : Nat) : Int))], .blk g1 26 (key.map b8), .rd A 1 ni c (info.map b8)] ⟨by decide, rfl⟩ ?_
  refine T_seq ?_
  refine T_seq ?_
  refine T_reg hF rfl ?_
  refine L_op rfl (op_ld (ld_blk 0 rfl rfl Try.underlying3 rfl rfl rfl) rfl rfl ?_)
  refine L_op rfl (op_pr (pr_cmp (bo := .lss) (nc_lt (a := n) (b := 1)) rfl rfl rfl rfl) rfl rfl ?_)
  refine L_op rfl (op_pr (pr_move rfl rfl) rfl rfl ?_)
  refine T_slot 12 (.bool (decide (n < 1))) (.bool false) rfl (congrArg _ (by simp; omega)) ?_
  refine L_op rfl (op_ld (ld_blk 0 rfl rfl Try.underlying3 rfl rfl rfl) rfl rfl ?_)
  refine L_op rfl (op_pr (pr_cmp (bo := .gtr) (nc_lt (a := 8160) (b := n)) rfl rfl rfl rfl) rfl rfl ?_)
  refine L_op rfl (op_pr (pr_pick_f rfl rfl rfl) rfl rfl ?_)
  refine L_nil ?_
  refine T_re [(1, (.slice A ni c)), (3, (.pointer (some ⟨g1, 0, none⟩))), (5, (.pointer (some ⟨g2, 0, none⟩))), (15, (.bool (decide (8160 < n))))] (sc rfl (sc rfl (sc rfl (sc rfl sn)))) ?_
  refine T_he [0, 1, 2] [.blk g2 3 [(.int .i64 ((n : Nat) : Int))], .blk g1 26 (key.map b8), .rd A 1 ni c (info.map b8)] ⟨by decide, rfl⟩ ?_
  refine T_cond_no (t := decide (8160 < n)) rfl (by simp; omega) ?_
  refine T_skip ?_
  refine T_seq ?_
  refine T_reg hF rfl ?_
  refine L_op rfl (op_alloc (z := (.slice none 0 0)) (zs := [(.slice none 0 0)]) (by kernel_rfl) rfl rfl rfl rfl (fun g4 => ?_))
  refine L_nil ?_
  refine T_re [(1, (.slice A ni c)), (3, (.pointer (some ⟨g1, 0, none⟩))), (5, (.pointer (some ⟨g2, 0, none⟩))), (8, (.pointer (some ⟨g4, 0, none⟩)))] (sc rfl (sc rfl (sc rfl (sc rfl sn)))) ?_
  refine T_he [0, 1, 2, 3] [.blk g4 24 [(.slice none 0 0)], .blk g2 3 [(.int .i64 ((n : Nat) : Int))], .blk g1 26 (key.map b8), .rd A 1 ni c (info.map b8)] ⟨by decide, rfl⟩ ?_
  refine T_seq ?_
  refine T_seq ?_
  refine T_reg hF rfl ?_
  refine L_op rfl (op_ld (ld_agg (ds := (key.map b8)) 2 rfl agg_all Try.underlying26 rfl (by rw [show ((key.map b8)).length = 32 from sd]; kernel_rfl) rfl rfl) rfl rfl ?_)
  refine L_op rfl (op_pr (pr_move rfl rfl) rfl rfl ?_)
  refine L_op rfl (op_call0 (vs := [(.agg (key.map b8).toArray), (.slice A ni c)]) (cap := []) (fun w hw => pieces_f key A ni c w (hok_nil w) sd) (enters_of Try.func44 (by kernel_rfl) rfl) rfl rfl rfl rfl rfl (fun t5 q6 => ?_))
  obtain ⟨g1_7, g2_8⟩ := t5
  refine L_nil ?_
  refine T_re [(5, (.pointer (some ⟨g2, 0, none⟩))), (8, (.pointer (some ⟨g4, 0, none⟩))), (18, (.func (.func 52) #[] [(.pointer (some ⟨g1_7, 0, none⟩)), (.pointer (some ⟨g2_8, 0, none⟩))].toArray))] (sc rfl (sc rfl (sc rfl sn))) ?_
  refine T_he [0, 1, 2, 3, 4, 5] [.old (some ⟨g1_7, 0, none⟩) 1 32 32 (key.map b8), .old (some ⟨g2_8, 0, none⟩) 1 1 1 [(.slice A ni c)], .blk g4 24 [(.slice none 0 0)], .blk g2 3 [(.int .i64 ((n : Nat) : Int))], .blk g1 26 (key.map b8), .rd A 1 ni c (info.map b8)] ⟨by decide, rfl⟩ ?_
  refine T_block ?_
  refine T_tord 0 rfl ?_
  refine T_tord 1 rfl ?_
  refine T_re [(5, (.pointer (some ⟨g2, 0, none⟩))), (8, (.pointer (some ⟨g4, 0, none⟩))), (18, (.func (.func 52) #[] [(.pointer (some ⟨g1_7, 0, none⟩)), (.pointer (some ⟨g2_8, 0, none⟩))].toArray))] (sc rfl (sc rfl (sc rfl sn))) ?_
  refine T_he [0, 1, 2, 3, 4, 5] [.rd (some ⟨g2_8, 0, none⟩) 1 1 1 [(.slice A ni c)], .rd (some ⟨g1_7, 0, none⟩) 1 32 32 (key.map b8), .blk g4 24 [(.slice none 0 0)], .blk g2 3 [(.int .i64 ((n : Nat) : Int))], .blk g1 26 (key.map b8), .rd A 1 ni c (info.map b8)] ⟨by decide, rfl⟩ ?_
  refine T_nilrow 5 1 ?_
  refine T_as 0 _ (.row (.slice none 0 0) 5 1 0 ((hkout key info 0).map b8)) rfl (by rw [hkout_zero]; rfl) ?_
  refine T_as 0 (.row (.slice none 0 0) 5 1 0 ((hkout key info 0).map b8)) (.row (.slice none (32 * 0) 0) 5 1 (32 * 0) ((hkout key info 0).map b8)) rfl (by first | rfl | simp | (congr 1; simp)) ?_
  refine T_as 3 (.blk g4 24 [(.slice none 0 0)]) (.blk g4 24 [(.slice none (32 * 0) 0)]) rfl (by first | rfl | simp | (congr 1; simp)) ?_
  refine T_range (Θ := Option Addr) (T := Option Addr × Nat) (Tx := Nat × Option Addr × Nat) (cap := [(.pointer (some ⟨g1_7, 0, none⟩)), (.pointer (some ⟨g2_8, 0, none⟩))]) (ps := [19]) (pieces_seq key info A ni c g1_7 g2_8 sd sd sd) rfl (enters_of Try.func52 (by kernel_rfl) rfl) (fun k ⟨A1, c1⟩ => 32 * k < n) (fun k ⟨A1, c1⟩ => [.row (.slice A1 (32 * k) c1) 5 1 (32 * k) ((hkout key info k).map b8), .rd (some ⟨g2_8, 0, none⟩) 1 1 1 [(.slice A ni c)], .rd (some ⟨g1_7, 0, none⟩) 1 32 32 (key.map b8), .blk g4 24 [(.slice A1 (32 * k) c1)], .blk g2 3 [(.int .i64 ((n : Nat) : Int))], .blk g1 26 (key.map b8), .rd A 1 ni c (info.map b8)]) (fun ⟨kb, A1, c1⟩ => n ≤ 32 * kb ∧ kb ≤ 255) (fun ⟨kb, A1, c1⟩ => [.row (.slice A1 (32 * kb) c1) 5 1 (32 * kb) ((hkout key info kb).map b8), .rd (some ⟨g2_8, 0, none⟩) 1 1 1 [(.slice A ni c)], .rd (some ⟨g1_7, 0, none⟩) 1 32 32 (key.map b8), .blk g4 24 [(.slice A1 (32 * kb) c1)], .blk g2 3 [(.int .i64 ((n : Nat) : Int))], .blk g1 26 (key.map b8), .rd A 1 ni c (info.map b8)]) 0 (none, 0) (by omega) [1, 2, 3, 0, 4, 5, 6] ⟨by decide, rfl⟩ [3, 2, 6] rfl rfl (fun _ _ => rfl) (fun _ => rfl) (fun _ _ => rfl) (fun _ _ => rfl) rfl (fun _ => trivial) ?_ ?_ ?_
  · intro C2 w2 lo2 rs2 l D m k t th rc hrec hk hp
    obtain ⟨A1, c1⟩ := t
    obtain ⟨B, rfl⟩ : ∃ x, x = th := ⟨_, rfl⟩
    have hp : 32 * k < n := hp
    have hk : k < 255 := hk
    have hol := hkout_len key info k
    have hpl := hkpc_len key info k
    have hF : Wid (Fence.wide.inRound l) := wid_round l
    refine T_re [(5, (.pointer (some ⟨g2, 0, none⟩))), (8, (.pointer (some ⟨g4, 0, none⟩))), (19, (.slice B 32 32))] (sc rfl (sc rfl (sc rfl sn))) ?_
    refine T_he [0, 1, 2, 3, 4, 5, 6, 7, 8, 9] [.rd B 1 32 32 ((hkpc key info (k + 1)).map b8), .obj l (.loop rc), .obj D (.deferred (some [])), .row (.slice A1 (32 * k) c1) 5 1 (32 * k) ((hkout key info k).map b8), .rd (some ⟨g2_8, 0, none⟩) 1 1 1 [(.slice A ni c)], .rd (some ⟨g1_7, 0, none⟩) 1 32 32 (key.map b8), .blk g4 24 [(.slice A1 (32 * k) c1)], .blk g2 3 [(.int .i64 ((n : Nat) : Int))], .blk g1 26 (key.map b8), .rd A 1 ni c (info.map b8)] ⟨by decide, rfl⟩ ?_
    refine T_reg hF rfl ?_
    refine L_op rfl (op_pr (pr_assign rfl rfl) rfl rfl ?_)
    refine L_nil ?_
    refine T_re [(5, (.pointer (some ⟨g2, 0, none⟩))), (8, (.pointer (some ⟨g4, 0, none⟩))), (9, (.slice B 32 32))] (sc rfl (sc rfl (sc rfl sn))) ?_
    refine T_he [0, 1, 2, 3, 4, 5, 6, 7, 8, 9] [.rd B 1 32 32 ((hkpc key info (k + 1)).map b8), .obj l (.loop rc), .obj D (.deferred (some [])), .row (.slice A1 (32 * k) c1) 5 1 (32 * k) ((hkout key info k).map b8), .rd (some ⟨g2_8, 0, none⟩) 1 1 1 [(.slice A ni c)], .rd (some ⟨g1_7, 0, none⟩) 1 32 32 (key.map b8), .blk g4 24 [(.slice A1 (32 * k) c1)], .blk g2 3 [(.int .i64 ((n : Nat) : Int))], .blk g1 26 (key.map b8), .rd A 1 ni c (info.map b8)] ⟨by decide, rfl⟩ ?_
    refine T_begun 1 rfl hrec ?_
    refine T_block ?_
    refine T_seq ?_
    refine T_reg hF rfl ?_
    refine L_op rfl (op_ld (ld_blk 6 rfl rfl Try.underlying24 rfl rfl rfl) rfl rfl ?_)
    refine L_op rfl (op_pr (pr_move rfl rfl) rfl rfl ?_)
    refine L_op rfl (op_append (z := (b8 (0#8))) (size := 1) (bytes := 1) 3 rfl Try.underlying24 (by kernel_rfl) (by kernel_rfl) (by decide) (src_rd 1 rfl) (all8_one _) sd sd rfl rfl rfl rfl rfl (fun A9 C10 => ?_))
    refine T_as 0 (.row (.slice A9 (32 * k + 32) C10) 5 1 (32 * k + 32) (((hkout key info k).map b8) ++ ((hkpc key info (k + 1)).map b8))) (.row (.slice A9 (32 * k + 32) C10) 5 1 (32 * k + 32) (((hkout key info k) ++ (hkpc key info (k + 1))).map b8)) rfl (by first | rfl | (congr 1; simp; done) | (simp only [List.map_append]; rfl) | (rw [List.map_append]; rfl)) ?_
    refine L_op rfl (op_store (vs := [(.slice A9 (32 * k + 32) C10)]) (cs' := [(.slice A9 (32 * k + 32) C10)]) 6 rfl rfl (by kernel_rfl) (one_one rfl) (by first | decide | simp | exact Nat.le_refl _) rfl rfl rfl rfl rfl ?_)
    refine L_nil ?_
    refine T_re [(5, (.pointer (some ⟨g2, 0, none⟩))), (8, (.pointer (some ⟨g4, 0, none⟩)))] (sc rfl (sc rfl sn)) ?_
    refine T_he [0, 1, 2, 3, 4, 5, 6, 7, 8, 9] [.blk g4 24 [(.slice A9 (32 * k + 32) C10)], .row (.slice A9 (32 * k + 32) C10) 5 1 (32 * k + 32) (((hkout key info k) ++ (hkpc key info (k + 1))).map b8), .obj l (.loop { rc with state := .busy }), .rd B 1 32 32 ((hkpc key info (k + 1)).map b8), .obj D (.deferred (some [])), .rd (some ⟨g2_8, 0, none⟩) 1 1 1 [(.slice A ni c)], .rd (some ⟨g1_7, 0, none⟩) 1 32 32 (key.map b8), .blk g2 3 [(.int .i64 ((n : Nat) : Int))], .blk g1 26 (key.map b8), .rd A 1 ni c (info.map b8)] ⟨by decide, rfl⟩ ?_
    refine T_seq ?_
    refine T_reg hF rfl ?_
    refine L_op rfl (op_ld (ld_blk 0 rfl rfl Try.underlying24 rfl rfl rfl) rfl rfl ?_)
    refine L_op rfl (op_pr (pr_len_sl Try.underlying24 rfl rfl) rfl rfl ?_)
    refine L_op rfl (op_ld (ld_blk 7 rfl rfl Try.underlying3 rfl rfl rfl) rfl rfl ?_)
    refine L_op rfl (op_pr (pr_cmp (bo := .geq) (nc_le (a := n) (b := 32 * k + 32)) rfl rfl rfl rfl) rfl rfl ?_)
    refine L_nil ?_
    refine T_re [(26, (.bool (decide (n ≤ 32 * k + 32))))] (sc rfl sn) ?_
    refine T_he [0, 1, 2, 3, 4, 5, 6, 7, 8, 9] [.blk g4 24 [(.slice A9 (32 * k + 32) C10)], .row (.slice A9 (32 * k + 32) C10) 5 1 (32 * k + 32) (((hkout key info k) ++ (hkpc key info (k + 1))).map b8), .obj l (.loop { rc with state := .busy }), .rd B 1 32 32 ((hkpc key info (k + 1)).map b8), .obj D (.deferred (some [])), .rd (some ⟨g2_8, 0, none⟩) 1 1 1 [(.slice A ni c)], .rd (some ⟨g1_7, 0, none⟩) 1 32 32 (key.map b8), .blk g2 3 [(.int .i64 ((n : Nat) : Int))], .blk g1 26 (key.map b8), .rd A 1 ni c (info.map b8)] ⟨by decide, rfl⟩ ?_
    refine T_cond (decide (n ≤ 32 * k + 32)) rfl (fun hc_11 => ?_) (fun hc_11 => ?_)
    · skip
      have hc_11 := of_decide_eq_true hc_11
      refine T_exit rfl ?_
      refine T_as 1 (.row (.slice A9 (32 * k + 32) C10) 5 1 (32 * k + 32) (((hkout key info k) ++ (hkpc key info (k + 1))).map b8)) (.row (.slice A9 (32 * (k + 1)) C10) 5 1 (32 * (k + 1)) ((hkout key info (k + 1)).map b8)) rfl (by rw [hkout_succ]; congr 1) ?_
      refine T_as 1 (.blk g4 24 [(.slice A9 (32 * k + 32) C10)]) (.blk g4 24 [(.slice A9 (32 * (k + 1)) C10)]) rfl (by congr 1) ?_
      exact T_on (k + 1, A9, C10) (by dsimp only; omega) [2, 4, 1, 5, 6, 0, 7, 8, 9] ⟨by decide, rfl⟩
    · skip
      have hc_11 := of_decide_eq_false hc_11
      refine T_skip ?_
      refine T_as 1 (.row (.slice A9 (32 * k + 32) C10) 5 1 (32 * k + 32) (((hkout key info k) ++ (hkpc key info (k + 1))).map b8)) (.row (.slice A9 (32 * (k + 1)) C10) 5 1 (32 * (k + 1)) ((hkout key info (k + 1)).map b8)) rfl (by rw [hkout_succ]; congr 1) ?_
      refine T_as 1 (.blk g4 24 [(.slice A9 (32 * k + 32) C10)]) (.blk g4 24 [(.slice A9 (32 * (k + 1)) C10)]) rfl (by congr 1) ?_
      exact T_on (A9, C10) (by omega) [2, 4, 1, 5, 6, 0, 7, 8, 9] ⟨by decide, rfl⟩
  · intro D t hp
    obtain ⟨A1, c1⟩ := t
    have hp : 32 * 255 < n := hp
    refine T_re [(5, (.pointer (some ⟨g2, 0, none⟩))), (8, (.pointer (some ⟨g4, 0, none⟩)))] (sc rfl (sc rfl sn)) ?_
    refine T_he [0, 1, 2, 3, 4, 5, 6, 7] [.obj D (.deferred (some [])), .row (.slice A1 (32 * 255) c1) 5 1 (32 * 255) ((hkout key info 255).map b8), .rd (some ⟨g2_8, 0, none⟩) 1 1 1 [(.slice A ni c)], .rd (some ⟨g1_7, 0, none⟩) 1 32 32 (key.map b8), .blk g4 24 [(.slice A1 (32 * 255) c1)], .blk g2 3 [(.int .i64 ((n : Nat) : Int))], .blk g1 26 (key.map b8), .rd A 1 ni c (info.map b8)] ⟨by decide, rfl⟩ ?_
    exfalso; omega
  · intro D t hq
    obtain ⟨kb, A1, c1⟩ := t
    have hq : n ≤ 32 * kb ∧ kb ≤ 255 := hq
    refine T_exit rfl ?_
    refine T_re [(5, (.pointer (some ⟨g2, 0, none⟩))), (8, (.pointer (some ⟨g4, 0, none⟩)))] (sc rfl (sc rfl sn)) ?_
    refine T_he [0, 1, 2, 3, 4, 5, 6, 7] [.obj D (.deferred (some [])), .row (.slice A1 (32 * kb) c1) 5 1 (32 * kb) ((hkout key info kb).map b8), .rd (some ⟨g2_8, 0, none⟩) 1 1 1 [(.slice A ni c)], .rd (some ⟨g1_7, 0, none⟩) 1 32 32 (key.map b8), .blk g4 24 [(.slice A1 (32 * kb) c1)], .blk g2 3 [(.int .i64 ((n : Nat) : Int))], .blk g1 26 (key.map b8), .rd A 1 ni c (info.map b8)] ⟨by decide, rfl⟩ ?_
    refine T_seq ?_
    refine T_reg hF rfl ?_
    refine L_op rfl (op_ld (ld_blk 4 rfl rfl Try.underlying24 rfl rfl rfl) rfl rfl ?_)
    refine L_op rfl (op_ld (ld_blk 5 rfl rfl Try.underlying3 rfl rfl rfl) rfl rfl ?_)
    refine L_op rfl (op_ld (ld_blk 5 rfl rfl Try.underlying3 rfl rfl rfl) rfl rfl ?_)
    refine T_old 1 rfl ?_
    refine T_know (p := 32 * kb ≤ c1) (fun w hw => (hw (.old A1 1 (32 * kb) c1 ((hkout key info kb).map b8)) (List.mem_of_getElem? (i := 0) rfl)).1.le) (fun hcap_12 => ?_)
    refine L_op rfl (op_pr (pr_slup3 (u := n) sd Try.underlying24 (z := 1) (by kernel_rfl) rfl rfl rfl rfl) rfl rfl ?_)
    refine T_prec 0 n n (((List.take n (hkout key info kb)).map b8)) rfl sd (Nat.le_refl _) sd sd (by rw [Nat.mul_one, List.map_take]) ?_
    refine L_op rfl (op_pr (pr_assign rfl rfl) rfl rfl ?_)
    refine L_op rfl (op_pr (pr_assign rfl rfl) rfl rfl ?_)
    refine L_nil ?_
    refine T_re [(6, (.slice A1 n n)), (7, (.int .i64 ((0 : Nat) : Int)))] (sc rfl (sc rfl sn)) ?_
    refine T_he [0, 1, 2, 3, 4, 5, 6, 7, 8] [.old A1 1 n n ((List.take n (hkout key info kb)).map b8), .old A1 1 (32 * kb) c1 ((hkout key info kb).map b8), .obj D (.deferred (some [])), .rd (some ⟨g2_8, 0, none⟩) 1 1 1 [(.slice A ni c)], .rd (some ⟨g1_7, 0, none⟩) 1 32 32 (key.map b8), .blk g4 24 [(.slice A1 (32 * kb) c1)], .blk g2 3 [(.int .i64 ((n : Nat) : Int))], .blk g1 26 (key.map b8), .rd A 1 ni c (info.map b8)] ⟨by decide, rfl⟩ ?_
    refine T_ret ?_
    refine T_as 0 (.old A1 1 n n ((List.take n (hkout key info kb)).map b8)) (.old A1 1 n n ((hkdf key info n).map b8)) rfl (by rw [hkdf_of key info n kb (by omega) (by omega)]) ?_
    exact T_finM 2 rfl A1 (by first | trivial | omega | (simp; done)) (res2 rfl rfl rfl) [0] ⟨by decide, rfl⟩ rfl
set_option maxHeartbeats 4000000 in
theorem expand_lo_f (key : List (BitVec 8)) (info : List (BitVec 8)) (A : Option Addr) (ni : Nat) (c : Nat) (z : Int) (w : World) (hO : HOK [.rd A 1 ni c (info.map b8)] w) (hkl : key.length = 32) (hi : info.length = ni) (hni : ni ≤ 100000000) (hz : z < 1) : Calls Try.prog 30 [(.agg (key.map b8).toArray), (.slice A ni c), (.int .i64 z)].toArray w (Ret (T := Unit) [] w (fun _ => True) (fun _ => (.tuple [(.slice none 0 0), (.int .i64 ((1 : Nat) : Int))].toArray)) (fun _ => [])) := by
  have hF : Wid Fence.wide := wid_wide
  refine enter_m (c := _) Try.func30 rfl [] [(.agg (key.map b8).toArray), (.slice A ni c), (.int .i64 z)] [.rd A 1 ni c (info.map b8)] (by rw [Try.ntmps30]; rfl) (own_rds hO rfl) ?_
  rw [Try.ntmps30]
  refine T_re [(0, (.agg (key.map b8).toArray)), (1, (.slice A ni c)), (2, (.int .i64 z))] (sc rfl (sc rfl (sc rfl sn))) ?_
  refine T_he [0] [.rd A 1 ni c (info.map b8)] ⟨by decide, rfl⟩ ?_
  refine T_seq ?_
  refine T_reg hF rfl ?_
  refine L_op rfl (op_box (zs := (key.map b8)) rfl rfl rfl rfl rfl (fun g1 => ?_))
  refine L_op rfl (op_box (zs := [(.int .i64 z)]) rfl rfl rfl rfl rfl (fun g2 => ?_))
  refine L_op rfl (op_pr (pr_assign rfl rfl) rfl rfl ?_)
  refine L_op rfl (op_pr (pr_assign rfl rfl) rfl rfl ?_)
  refine L_nil ?_
  refine T_re [(1, (.slice A ni c)), (3, (.pointer (some ⟨g1, 0, none⟩))), (5, (.pointer (some ⟨g2, 0, none⟩)))] (sc rfl (sc rfl (sc rfl sn))) ?_
  refine T_he [0, 1, 2] [.blk g2 3 [(.int .i64 z)], .blk g1 26 (key.map b8), .rd A 1 ni c (info.map b8)] ⟨by decide, rfl⟩ ?_
  refine T_seq ?_
  refine T_seq ?_
  refine T_reg hF rfl ?_
  refine L_op rfl (op_ld (ld_blk 0 rfl rfl Try.underlying3 rfl rfl rfl) rfl rfl ?_)
  refine L_op rfl (op_pr (pr_cmp (bo := .lss) (k := .i64) (a := z) (b := ((1 : Nat) : Int)) (c := decide (z < ((1 : Nat) : Int))) rfl rfl rfl rfl rfl) rfl rfl ?_)
  refine L_op rfl (op_pr (pr_move rfl rfl) rfl rfl ?_)
  refine T_slot 12 (.bool (decide (z < ((1 : Nat) : Int)))) (.bool true) rfl (congrArg _ (by simp; omega)) ?_
  refine L_skip rfl rfl rfl ?_
  refine L_skip rfl rfl rfl ?_
  refine L_op rfl (op_pr (pr_pick_t rfl rfl rfl) rfl rfl ?_)
  refine L_nil ?_
  refine T_re [(1, (.slice A ni c)), (3, (.pointer (some ⟨g1, 0, none⟩))), (5, (.pointer (some ⟨g2, 0, none⟩))), (15, (.bool true))] (sc rfl (sc rfl (sc rfl (sc rfl sn)))) ?_
  refine T_he [0, 1, 2] [.blk g2 3 [(.int .i64 z)], .blk g1 26 (key.map b8), .rd A 1 ni c (info.map b8)] ⟨by decide, rfl⟩ ?_
  refine T_cond_t rfl ?_
  refine T_seq ?_
  refine T_reg hF rfl ?_
  refine L_op rfl (op_pr (pr_assign rfl rfl) rfl rfl ?_)
  refine L_op rfl (op_pr (pr_assign rfl rfl) rfl rfl ?_)
  refine L_nil ?_
  refine T_re [(6, (.slice none 0 0)), (7, (.int .i64 ((1 : Nat) : Int)))] (sc rfl (sc rfl sn)) ?_
  refine T_he [0, 1, 2] [.blk g2 3 [(.int .i64 z)], .blk g1 26 (key.map b8), .rd A 1 ni c (info.map b8)] ⟨by decide, rfl⟩ ?_
  refine T_ret ?_
  exact T_finM0 () (by first | trivial | omega | (simp; done)) (res2 rfl rfl rfl) [] ⟨by decide, rfl⟩ rfl
set_option maxHeartbeats 4000000 in
theorem expand_hi_f (key : List (BitVec 8)) (info : List (BitVec 8)) (A : Option Addr) (ni : Nat) (c : Nat) (z : Int) (w : World) (hO : HOK [.rd A 1 ni c (info.map b8)] w) (hkl : key.length = 32) (hi : info.length = ni) (hni : ni ≤ 100000000) (hz : 8160 < z) : Calls Try.prog 30 [(.agg (key.map b8).toArray), (.slice A ni c), (.int .i64 z)].toArray w (Ret (T := Unit) [] w (fun _ => True) (fun _ => (.tuple [(.slice none 0 0), (.int .i64 ((1 : Nat) : Int))].toArray)) (fun _ => [])) := by
  have hF : Wid Fence.wide := wid_wide
  refine enter_m (c := _) Try.func30 rfl [] [(.agg (key.map b8).toArray), (.slice A ni c), (.int .i64 z)] [.rd A 1 ni c (info.map b8)] (by rw [Try.ntmps30]; rfl) (own_rds hO rfl) ?_
  rw [Try.ntmps30]
  refine T_re [(0, (.agg (key.map b8).toArray)), (1, (.slice A ni c)), (2, (.int .i64 z))] (sc rfl (sc rfl (sc rfl sn))) ?_
  refine T_he [0] [.rd A 1 ni c (info.map b8)] ⟨by decide, rfl⟩ ?_
  refine T_seq ?_
  refine T_reg hF rfl ?_
  refine L_op rfl (op_box (zs := (key.map b8)) rfl rfl rfl rfl rfl (fun g1 => ?_))
  refine L_op rfl (op_box (zs := [(.int .i64 z)]) rfl rfl rfl rfl rfl (fun g2 => ?_))
  refine L_op rfl (op_pr (pr_assign rfl rfl) rfl rfl ?_)
  refine L_op rfl (op_pr (pr_assign rfl rfl) rfl rfl ?_)
  refine L_nil ?_
  refine T_re [(1, (.slice A ni c)), (3, (.pointer (some ⟨g1, 0, none⟩))), (5, (.pointer (some ⟨g2, 0, none⟩)))] (sc rfl (sc rfl (sc rfl sn))) ?_
  refine T_he [0, 1, 2] [.blk g2 3 [(.int .i64 z)], .blk g1 26 (key.map b8), .rd A 1 ni c (info.map b8)] ⟨by decide, rfl⟩ ?_
  refine T_seq ?_
  refine T_seq ?_
  refine T_reg hF rfl ?_
  refine L_op rfl (op_ld (ld_blk 0 rfl rfl Try.underlying3 rfl rfl rfl) rfl rfl ?_)
  refine L_op rfl (op_pr (pr_cmp (bo := .lss) (k := .i64) (a := z) (b := ((1 : Nat) : Int)) (c := decide (z < ((1 : Nat) : Int))) rfl rfl rfl rfl rfl) rfl rfl ?_)
  refine L_op rfl (op_pr (pr_move rfl rfl) rfl rfl ?_)
  refine T_slot 12 (.bool (decide (z < ((1 : Nat) : Int)))) (.bool false) rfl (congrArg _ (by simp; omega)) ?_
  refine L_op rfl (op_ld (ld_blk 0 rfl rfl Try.underlying3 rfl rfl rfl) rfl rfl ?_)
  refine L_op rfl (op_pr (pr_cmp (bo := .gtr) (k := .i64) (a := z) (b := ((8160 : Nat) : Int)) (c := decide (((8160 : Nat) : Int) < z)) rfl rfl rfl rfl rfl) rfl rfl ?_)
  refine L_op rfl (op_pr (pr_pick_f rfl rfl rfl) rfl rfl ?_)
  refine L_nil ?_
  refine T_re [(1, (.slice A ni c)), (3, (.pointer (some ⟨g1, 0, none⟩))), (5, (.pointer (some ⟨g2, 0, none⟩))), (15, (.bool (decide (((8160 : Nat) : Int) < z))))] (sc rfl (sc rfl (sc rfl (sc rfl sn)))) ?_
  refine T_he [0, 1, 2] [.blk g2 3 [(.int .i64 z)], .blk g1 26 (key.map b8), .rd A 1 ni c (info.map b8)] ⟨by decide, rfl⟩ ?_
  refine T_cond_yes (t := decide (((8160 : Nat) : Int) < z)) rfl (by simp; omega) ?_
  refine T_seq ?_
  refine T_reg hF rfl ?_
  refine L_op rfl (op_pr (pr_assign rfl rfl) rfl rfl ?_)
  refine L_op rfl (op_pr (pr_assign rfl rfl) rfl rfl ?_)
  refine L_nil ?_
  refine T_re [(6, (.slice none 0 0)), (7, (.int .i64 ((1 : Nat) : Int)))] (sc rfl (sc rfl sn)) ?_
  refine T_he [0, 1, 2] [.blk g2 3 [(.int .i64 z)], .blk g1 26 (key.map b8), .rd A 1 ni c (info.map b8)] ⟨by decide, rfl⟩ ?_
  refine T_ret ?_
  exact T_finM0 () (by first | trivial | omega | (simp; done)) (res2 rfl rfl rfl) [] ⟨by decide, rfl⟩ rfl
set_option maxHeartbeats 4000000 in
theorem rexpand_lo_f (key : List (BitVec 8)) (info : List (BitVec 8)) (A : Option Addr) (ni : Nat) (c : Nat) (z : Int) (w : World) (hO : HOK [.rd A 1 ni c (info.map b8)] w) (hkl : key.length = 32) (hi : info.length = ni) (hni : ni ≤ 100000000) (hz : z < 1) : Calls Try.prog 32 [(.agg (key.map b8).toArray), (.slice A ni c), (.int .i64 z)].toArray w (Ret (T := Unit) [] w (fun _ => True) (fun _ => (.tuple [(.slice none 0 0), (.int .i64 ((1 : Nat) : Int))].toArray)) (fun _ => [])) := by
  have hF : Wid Fence.wide := wid_wide
  refine enter (c := _) Try.func32 rfl [] [(.agg (key.map b8).toArray), (.slice A ni c), (.int .i64 z)] [.rd A 1 ni c (info.map b8)] (by rw [Try.ntmps32]; rfl) (own_rds hO rfl) ?_
  rw [Try.ntmps32]
  refine T_re [(0, (.agg (key.map b8).toArray)), (1, (.slice A ni c)), (2, (.int .i64 z))] (sc rfl (sc rfl (sc rfl sn))) ?_
  refine T_he [0] [.rd A 1 ni c (info.map b8)] ⟨by decide, rfl⟩ ?_
  refine T_seq ?_
  refine T_reg hF rfl ?_
  refine L_op rfl (op_box (zs := (key.map b8)) rfl rfl rfl rfl rfl (fun g1 => ?_))
  refine L_op rfl (op_pr (pr_assign rfl rfl) rfl rfl ?_)
  refine L_op rfl (op_pr (pr_assign rfl rfl) rfl rfl ?_)
  refine L_nil ?_
  refine T_re [(1, (.slice A ni c)), (2, (.int .i64 z)), (3, (.pointer (some ⟨g1, 0, none⟩)))] (sc rfl (sc rfl (sc rfl sn))) ?_
  refine T_he [0, 1] [.blk g1 26 (key.map b8), .rd A 1 ni c (info.map b8)] ⟨by decide, rfl⟩ ?_
  refine T_seq ?_
  refine T_seq ?_
  refine T_reg hF rfl ?_
  refine L_op rfl (op_pr (pr_move rfl rfl) rfl rfl ?_)
  refine L_op rfl (op_pr (pr_cmp (bo := .lss) (k := .i64) (a := z) (b := ((1 : Nat) : Int)) (c := decide (z < ((1 : Nat) : Int))) rfl rfl rfl rfl rfl) rfl rfl ?_)
  refine L_op rfl (op_pr (pr_move rfl rfl) rfl rfl ?_)
  refine T_slot 15 (.bool (decide (z < ((1 : Nat) : Int)))) (.bool true) rfl (congrArg _ (by simp; omega)) ?_
  refine L_skip rfl rfl rfl ?_
  refine L_skip rfl rfl rfl ?_
  refine L_op rfl (op_pr (pr_pick_t rfl rfl rfl) rfl rfl ?_)
  refine L_nil ?_
  refine T_re [(1, (.slice A ni c)), (2, (.int .i64 z)), (3, (.pointer (some ⟨g1, 0, none⟩))), (18, (.bool true))] (sc rfl (sc rfl (sc rfl (sc rfl sn)))) ?_
  refine T_he [0, 1] [.blk g1 26 (key.map b8), .rd A 1 ni c (info.map b8)] ⟨by decide, rfl⟩ ?_
  refine T_cond_t rfl ?_
  refine T_seq ?_
  refine T_reg hF rfl ?_
  refine L_op rfl (op_pr (pr_assign rfl rfl) rfl rfl ?_)
  refine L_op rfl (op_pr (pr_assign rfl rfl) rfl rfl ?_)
  refine L_nil ?_
  refine T_re [(6, (.slice none 0 0)), (7, (.int .i64 ((1 : Nat) : Int)))] (sc rfl (sc rfl sn)) ?_
  refine T_he [0, 1] [.blk g1 26 (key.map b8), .rd A 1 ni c (info.map b8)] ⟨by decide, rfl⟩ ?_
  refine T_ret ?_
  exact T_fin () (by first | trivial | omega | (simp; done)) (res2 rfl rfl rfl) [] ⟨by decide, rfl⟩ rfl
set_option maxHeartbeats 4000000 in
theorem rexpand_hi_f (key : List (BitVec 8)) (info : List (BitVec 8)) (A : Option Addr) (ni : Nat) (c : Nat) (z : Int) (w : World) (hO : HOK [.rd A 1 ni c (info.map b8)] w) (hkl : key.length = 32) (hi : info.length = ni) (hni : ni ≤ 100000000) (hz : 8160 < z) : Calls Try.prog 32 [(.agg (key.map b8).toArray), (.slice A ni c), (.int .i64 z)].toArray w (Ret (T := Unit) [] w (fun _ => True) (fun _ => (.tuple [(.slice none 0 0), (.int .i64 ((1 : Nat) : Int))].toArray)) (fun _ => [])) := by
  have hF : Wid Fence.wide := wid_wide
  refine enter (c := _) Try.func32 rfl [] [(.agg (key.map b8).toArray), (.slice A ni c), (.int .i64 z)] [.rd A 1 ni c (info.map b8)] (by rw [Try.ntmps32]; rfl) (own_rds hO rfl) ?_
  rw [Try.ntmps32]
  refine T_re [(0, (.agg (key.map b8).toArray)), (1, (.slice A ni c)), (2, (.int .i64 z))] (sc rfl (sc rfl (sc rfl sn))) ?_
  refine T_he [0] [.rd A 1 ni c (info.map b8)] ⟨by decide, rfl⟩ ?_
  refine T_seq ?_
  refine T_reg hF rfl ?_
  refine L_op rfl (op_box (zs := (key.map b8)) rfl rfl rfl rfl rfl (fun g1 => ?_))
  refine L_op rfl (op_pr (pr_assign rfl rfl) rfl rfl ?_)
  refine L_op rfl (op_pr (pr_assign rfl rfl) rfl rfl ?_)
  refine L_nil ?_
  refine T_re [(1, (.slice A ni c)), (2, (.int .i64 z)), (3, (.pointer (some ⟨g1, 0, none⟩)))] (sc rfl (sc rfl (sc rfl sn))) ?_
  refine T_he [0, 1] [.blk g1 26 (key.map b8), .rd A 1 ni c (info.map b8)] ⟨by decide, rfl⟩ ?_
  refine T_seq ?_
  refine T_seq ?_
  refine T_reg hF rfl ?_
  refine L_op rfl (op_pr (pr_move rfl rfl) rfl rfl ?_)
  refine L_op rfl (op_pr (pr_cmp (bo := .lss) (k := .i64) (a := z) (b := ((1 : Nat) : Int)) (c := decide (z < ((1 : Nat) : Int))) rfl rfl rfl rfl rfl) rfl rfl ?_)
  refine L_op rfl (op_pr (pr_move rfl rfl) rfl rfl ?_)
  refine T_slot 15 (.bool (decide (z < ((1 : Nat) : Int)))) (.bool false) rfl (congrArg _ (by simp; omega)) ?_
  refine L_op rfl (op_pr (pr_move rfl rfl) rfl rfl ?_)
  refine L_op rfl (op_pr (pr_cmp (bo := .gtr) (k := .i64) (a := z) (b := ((8160 : Nat) : Int)) (c := decide (((8160 : Nat) : Int) < z)) rfl rfl rfl rfl rfl) rfl rfl ?_)
  refine L_op rfl (op_pr (pr_pick_f rfl rfl rfl) rfl rfl ?_)
  refine L_nil ?_
  refine T_re [(1, (.slice A ni c)), (2, (.int .i64 z)), (3, (.pointer (some ⟨g1, 0, none⟩))), (18, (.bool (decide (((8160 : Nat) : Int) < z))))] (sc rfl (sc rfl (sc rfl (sc rfl sn)))) ?_
  refine T_he [0, 1] [.blk g1 26 (key.map b8), .rd A 1 ni c (info.map b8)] ⟨by decide, rfl⟩ ?_
  refine T_cond_yes (t := decide (((8160 : Nat) : Int) < z)) rfl (by simp; omega) ?_
  refine T_seq ?_
  refine T_reg hF rfl ?_
  refine L_op rfl (op_pr (pr_assign rfl rfl) rfl rfl ?_)
  refine L_op rfl (op_pr (pr_assign rfl rfl) rfl rfl ?_)
  refine L_nil ?_
  refine T_re [(6, (.slice none 0 0)), (7, (.int .i64 ((1 : Nat) : Int)))] (sc rfl (sc rfl sn)) ?_
  refine T_he [0, 1] [.blk g1 26 (key.map b8), .rd A 1 ni c (info.map b8)] ⟨by decide, rfl⟩ ?_
  refine T_ret ?_
  exact T_fin () (by first | trivial | omega | (simp; done)) (res2 rfl rfl rfl) [] ⟨by decide, rfl⟩ rfl
set_option maxHeartbeats 4000000 in
theorem key_f (salt : List (BitVec 8)) (A : Option Addr) (n : Nat) (c : Nat) (key : List (BitVec 8)) (B : Option Addr) (nt : Nat) (d : Nat) (info : List (BitVec 8)) (E : Option Addr) (ni : Nat) (ce : Nat) (w : World) (hO : HOK [.rd A 1 n c (salt.map b8), .rd B 1 nt d (key.map b8), .rd E 1 ni ce (info.map b8)] w) (hx : salt.length = n) (hn : n ≤ 900000000) (ht : key.length = nt) (hnt : nt ≤ 900000000) (hi : info.length = ni) (hni : ni ≤ 100000000) : Calls Try.prog 34 [(.slice A n c), (.slice B nt d), (.slice E ni ce)].toArray w (Ret (T := Unit) [] w (fun _ => True) (fun _ => (.agg ((hkdf (mactag salt key) info 32).map b8).toArray)) (fun _ => [])) := by
  have hml := mactag_len salt key
  have hkl2 := hkdf_len (mactag salt key) info 32 (by omega)
  have hF : Wid Fence.wide := wid_wide
  refine enter (c := _) Try.func34 rfl [] [(.slice A n c), (.slice B nt d), (.slice E ni ce)] [.rd A 1 n c (salt.map b8), .rd B 1 nt d (key.map b8), .rd E 1 ni ce (info.map b8)] (by rw [Try.ntmps34]; rfl) (own_rds hO rfl) ?_
  rw [Try.ntmps34]
  refine T_re [(0, (.slice A n c)), (1, (.slice B nt d)), (2, (.slice E ni ce))] (sc rfl (sc rfl (sc rfl sn))) ?_
  refine T_he [0, 1, 2] [.rd A 1 n c (salt.map b8), .rd B 1 nt d (key.map b8), .rd E 1 ni ce (info.map b8)] ⟨by decide, rfl⟩ ?_
  refine T_seq ?_
  refine T_reg hF rfl ?_
  refine L_op rfl (op_alloc (z := .agg ((List.replicate 32 0#8).map b8).toArray) (zs := ((List.replicate 32 0#8).map b8)) (by kernel_rfl) rfl rfl rfl rfl (fun g1 => ?_))
  refine L_nil ?_
  refine T_re [(0, (.slice A n c)), (1, (.slice B nt d)), (2, (.slice E ni ce)), (6, (.pointer (some ⟨g1, 0, none⟩)))] (sc rfl (sc rfl (sc rfl (sc rfl sn)))) ?_
  refine T_he [0, 1, 2, 3] [.blk g1 26 ((List.replicate 32 0#8).map b8), .rd A 1 n c (salt.map b8), .rd B 1 nt d (key.map b8), .rd E 1 ni ce (info.map b8)] ⟨by decide, rfl⟩ ?_
  refine T_seq ?_
  refine T_reg hF rfl ?_
  refine L_op rfl (op_pr (pr_move rfl rfl) rfl rfl ?_)
  refine L_op rfl (op_pr (pr_move rfl rfl) rfl rfl ?_)
  refine L_op rfl (op_call0 (vs := [(.slice A n c), (.slice B nt d)]) (cap := []) (fun w hw => extract_f salt A n c key B nt d w (hok_cons ((src_rd 1 rfl) w hw) (hok_cons ((src_rd 2 rfl) w hw) (hok_nil w))) (by first | assumption | omega | (simp; done) | (simp; omega)) sd (by first | assumption | omega | (simp; done) | (simp; omega)) sd) (enters_of Try.func31 (by kernel_rfl) rfl) rfl rfl rfl rfl rfl (fun t2 q3 => ?_))
  refine L_op rfl (op_pr (pr_move rfl rfl) rfl rfl ?_)
  refine L_op rfl (op_call0 (vs := [(.agg ((mactag salt key).map b8).toArray), (.slice E ni ce), (.int .i64 ((32 : Nat) : Int))]) (cap := []) (fun w hw => expand_f (mactag salt key) info E ni ce 32 w (hok_cons ((src_rd 3 rfl) w hw) (hok_nil w)) (by first | assumption | omega | (simp; done) | (simp; omega)) (by first | assumption | omega | (simp; done) | (simp; omega)) sd sd sd) (enters_of Try.func30 (by kernel_rfl) rfl) rfl rfl rfl rfl rfl (fun t4 q5 => ?_))
  obtain ⟨B6, eB6⟩ : ∃ x, x = t4 := ⟨_, rfl⟩
  subst eB6
  refine L_op rfl (op_pr (pr_move rfl rfl) rfl rfl ?_)
  refine L_op rfl (op_pr (pr_ext (vs := [(.slice B6 32 32), (.int .i64 ((0 : Nat) : Int))]) rfl rfl rfl) rfl rfl ?_)
  refine L_op rfl (op_pr (pr_ext (vs := [(.slice B6 32 32), (.int .i64 ((0 : Nat) : Int))]) rfl rfl rfl) rfl rfl ?_)
  refine L_op rfl (op_pr (pr_assign rfl rfl) rfl rfl ?_)
  refine L_op rfl (op_pr (pr_assign rfl rfl) rfl rfl ?_)
  refine L_nil ?_
  refine T_re [(6, (.pointer (some ⟨g1, 0, none⟩))), (7, (.slice B6 32 32))] (sc rfl (sc rfl sn)) ?_
  refine T_he [0, 1, 2, 3, 4] [.old B6 1 32 32 ((hkdf (mactag salt key) info 32).map b8), .blk g1 26 ((List.replicate 32 0#8).map b8), .rd A 1 n c (salt.map b8), .rd B 1 nt d (key.map b8), .rd E 1 ni ce (info.map b8)] ⟨by decide, rfl⟩ ?_
  refine T_seq ?_
  refine T_reg hF rfl ?_
  refine L_op rfl (op_pr (pr_move rfl rfl) rfl rfl ?_)
  refine L_op rfl (op_pr (pr_s2a sd Try.underlying26 rfl rfl) rfl rfl ?_)
  refine L_op rfl (op_ld (ld_aggs (ds := ((hkdf (mactag salt key) info 32).map b8)) (src_old 0 rfl) (List.take_length) (by have h1 : (((hkdf (mactag salt key) info 32).map b8)).length = 32 := sd; omega) Try.underlying26 rfl (by rw [show (((hkdf (mactag salt key) info 32).map b8)).length = 32 from sd]; kernel_rfl) rfl rfl) rfl rfl ?_)
  refine L_op rfl (op_store (vs := ((hkdf (mactag salt key) info 32).map b8)) (cs' := ((hkdf (mactag salt key) info 32).map b8)) 1 rfl rfl (by rw [show (((hkdf (mactag salt key) info 32).map b8)).length = 32 from sd]; kernel_rfl) (all8_one _) (by have h1 : (((List.replicate 32 0#8).map b8)).length = 32 := (by kernel_rfl); have h2 : (((hkdf (mactag salt key) info 32).map b8)).length = 32 := sd; omega) (splice_all (Eq.trans (b := 32) (by kernel_rfl) (Eq.symm sd))) rfl rfl rfl rfl ?_)
  refine L_nil ?_
  refine T_re [(6, (.pointer (some ⟨g1, 0, none⟩)))] (sc rfl sn) ?_
  refine T_he [0, 1, 2, 3, 4] [.blk g1 26 ((hkdf (mactag salt key) info 32).map b8), .old B6 1 32 32 ((hkdf (mactag salt key) info 32).map b8), .rd A 1 n c (salt.map b8), .rd B 1 nt d (key.map b8), .rd E 1 ni ce (info.map b8)] ⟨by decide, rfl⟩ ?_
  refine T_ret ?_
  exact T_fin () (by first | trivial | omega | (simp; done)) (resb 0 rfl rfl rfl Try.underlying26 rfl (by rw [show (((hkdf (mactag salt key) info 32).map b8)).length = 32 from sd]; kernel_rfl)) [] ⟨by decide, rfl⟩ rfl
set_option maxHeartbeats 4000000 in
theorem rkey_f (salt : List (BitVec 8)) (A : Option Addr) (n : Nat) (c : Nat) (key : List (BitVec 8)) (B : Option Addr) (nt : Nat) (d : Nat) (info : List (BitVec 8)) (E : Option Addr) (ni : Nat) (ce : Nat) (w : World) (hO : HOK [.rd A 1 n c (salt.map b8), .rd B 1 nt d (key.map b8), .rd E 1 ni ce (info.map b8)] w) (hx : salt.length = n) (hn : n ≤ 900000000) (ht : key.length = nt) (hnt : nt ≤ 900000000) (hi : info.length = ni) (hni : ni ≤ 100000000) : Calls Try.prog 35 [(.slice A n c), (.slice B nt d), (.slice E ni ce)].toArray w (Ret (T := Unit) [] w (fun _ => True) (fun _ => (.agg ((hkdf (mactag salt key) info 32).map b8).toArray)) (fun _ => [])) := by
  have hml := mactag_len salt key
  have hkl2 := hkdf_len (mactag salt key) info 32 (by omega)
  have hF : Wid Fence.wide := wid_wide
  refine enter (c := _) Try.func35 rfl [] [(.slice A n c), (.slice B nt d), (.slice E ni ce)] [.rd A 1 n c (salt.map b8), .rd B 1 nt d (key.map b8), .rd E 1 ni ce (info.map b8)] (by rw [Try.ntmps35]; rfl) (own_rds hO rfl) ?_
  rw [Try.ntmps35]
  refine T_re [(0, (.slice A n c)), (1, (.slice B nt d)), (2, (.slice E ni ce))] (sc rfl (sc rfl (sc rfl sn))) ?_
  refine T_he [0, 1, 2] [.rd A 1 n c (salt.map b8), .rd B 1 nt d (key.map b8), .rd E 1 ni ce (info.map b8)] ⟨by decide, rfl⟩ ?_
  refine T_seq ?_
  refine T_reg hF rfl ?_
  refine L_op rfl (op_alloc (z := .agg ((List.replicate 32 0#8).map b8).toArray) (zs := ((List.replicate 32 0#8).map b8)) (by kernel_rfl) rfl rfl rfl rfl (fun g1 => ?_))
  refine L_nil ?_
  refine T_re [(0, (.slice A n c)), (1, (.slice B nt d)), (2, (.slice E ni ce)), (6, (.pointer (some ⟨g1, 0, none⟩)))] (sc rfl (sc rfl (sc rfl (sc rfl sn)))) ?_
  refine T_he [0, 1, 2, 3] [.blk g1 26 ((List.replicate 32 0#8).map b8), .rd A 1 n c (salt.map b8), .rd B 1 nt d (key.map b8), .rd E 1 ni ce (info.map b8)] ⟨by decide, rfl⟩ ?_
  refine T_seq ?_
  refine T_reg hF rfl ?_
  refine L_op rfl (op_pr (pr_move rfl rfl) rfl rfl ?_)
  refine L_op rfl (op_pr (pr_move rfl rfl) rfl rfl ?_)
  refine L_op rfl (op_call0 (vs := [(.slice A n c), (.slice B nt d)]) (cap := []) (fun w hw => rextract_f salt A n c key B nt d w (hok_cons ((src_rd 1 rfl) w hw) (hok_cons ((src_rd 2 rfl) w hw) (hok_nil w))) (by first | assumption | omega | (simp; done) | (simp; omega)) sd (by first | assumption | omega | (simp; done) | (simp; omega)) sd) (enters_of Try.func33 (by kernel_rfl) rfl) rfl rfl rfl rfl rfl (fun t2 q3 => ?_))
  refine L_op rfl (op_pr (pr_move rfl rfl) rfl rfl ?_)
  refine L_op rfl (op_call0 (vs := [(.agg ((mactag salt key).map b8).toArray), (.slice E ni ce), (.int .i64 ((32 : Nat) : Int))]) (cap := []) (fun w hw => rexpand_f (mactag salt key) info E ni ce 32 w (hok_cons ((src_rd 3 rfl) w hw) (hok_nil w)) (by first | assumption | omega | (simp; done) | (simp; omega)) (by first | assumption | omega | (simp; done) | (simp; omega)) sd sd sd) (enters_of Try.func32 (by kernel_rfl) rfl) rfl rfl rfl rfl rfl (fun t4 q5 => ?_))
  obtain ⟨B6, d7⟩ := t4
  refine L_op rfl (op_pr (pr_move rfl rfl) rfl rfl ?_)
  refine L_op rfl (op_pr (pr_ext (vs := [(.slice B6 32 d7), (.int .i64 ((0 : Nat) : Int))]) rfl rfl rfl) rfl rfl ?_)
  refine L_op rfl (op_pr (pr_ext (vs := [(.slice B6 32 d7), (.int .i64 ((0 : Nat) : Int))]) rfl rfl rfl) rfl rfl ?_)
  refine L_op rfl (op_pr (pr_assign rfl rfl) rfl rfl ?_)
  refine L_op rfl (op_pr (pr_assign rfl rfl) rfl rfl ?_)
  refine L_nil ?_
  refine T_re [(6, (.pointer (some ⟨g1, 0, none⟩))), (7, (.slice B6 32 d7))] (sc rfl (sc rfl sn)) ?_
  refine T_he [0, 1, 2, 3, 4] [.row (.slice B6 32 d7) 5 1 32 ((hkdf (mactag salt key) info 32).map b8), .blk g1 26 ((List.replicate 32 0#8).map b8), .rd A 1 n c (salt.map b8), .rd B 1 nt d (key.map b8), .rd E 1 ni ce (info.map b8)] ⟨by decide, rfl⟩ ?_
  refine T_seq ?_
  refine T_reg hF rfl ?_
  refine L_op rfl (op_alloc (z := .agg ((List.replicate 32 0#8).map b8).toArray) (zs := ((List.replicate 32 0#8).map b8)) (by kernel_rfl) rfl rfl rfl rfl (fun g8 => ?_))
  refine L_nil ?_
  refine T_re [(6, (.pointer (some ⟨g1, 0, none⟩))), (7, (.slice B6 32 d7)), (9, (.pointer (some ⟨g8, 0, none⟩)))] (sc rfl (sc rfl (sc rfl sn))) ?_
  refine T_he [0, 1, 2, 3, 4, 5] [.blk g8 26 ((List.replicate 32 0#8).map b8), .row (.slice B6 32 d7) 5 1 32 ((hkdf (mactag salt key) info 32).map b8), .blk g1 26 ((List.replicate 32 0#8).map b8), .rd A 1 n c (salt.map b8), .rd B 1 nt d (key.map b8), .rd E 1 ni ce (info.map b8)] ⟨by decide, rfl⟩ ?_
  refine T_seq ?_
  refine T_seq ?_
  refine T_reg hF rfl ?_
  refine L_op rfl (op_pr (pr_assign rfl rfl) rfl rfl ?_)
  refine L_nil ?_
  refine T_re [(6, (.pointer (some ⟨g1, 0, none⟩))), (7, (.slice B6 32 d7)), (9, (.pointer (some ⟨g8, 0, none⟩))), (10, (.int .i64 ((0 : Nat) : Int)))] (sc rfl (sc rfl (sc rfl (sc rfl sn)))) ?_
  refine T_he [0, 1, 2, 3, 4, 5] [.blk g8 26 ((List.replicate 32 0#8).map b8), .row (.slice B6 32 d7) 5 1 32 ((hkdf (mactag salt key) info 32).map b8), .blk g1 26 ((List.replicate 32 0#8).map b8), .rd A 1 n c (salt.map b8), .rd B 1 nt d (key.map b8), .rd E 1 ni ce (info.map b8)] ⟨by decide, rfl⟩ ?_
  refine T_block ?_
  refine T_as 0 (.blk g8 26 ((List.replicate 32 0#8).map b8)) (.blk g8 26 ((pre0 (hkdf (mactag salt key) info 32) 32 0).map b8)) rfl (by rw [← pre0_zero]) ?_
  refine T_loop (T := Nat) (fun j => j ≤ 32) (fun j => [(6, (.pointer (some ⟨g1, 0, none⟩))), (7, (.slice B6 32 d7)), (9, (.pointer (some ⟨g8, 0, none⟩))), (10, (.int .i64 ((j : Nat) : Int)))]) (fun j => [.blk g8 26 ((pre0 (hkdf (mactag salt key) info 32) 32 j).map b8), .row (.slice B6 32 d7) 5 1 32 ((hkdf (mactag salt key) info 32).map b8), .blk g1 26 ((List.replicate 32 0#8).map b8), .rd A 1 n c (salt.map b8), .rd B 1 nt d (key.map b8), .rd E 1 ni ce (info.map b8)]) (fun j => 32 - j) 0 (by first | trivial | ((try dsimp only); first | omega | (refine ⟨?_, ?_⟩ <;> omega) | (refine ⟨?_, ?_, ?_⟩ <;> omega) | (simp; done) | (simp; omega))) (sc rfl (sc rfl (sc rfl (sc rfl sn)))) [0, 1, 2, 3, 4, 5] ⟨by decide, rfl⟩ ?_
  rintro j hp
  have hp : j ≤ 32 := hp
  have hpj := pre0_len (hkdf (mactag salt key) info 32) 32 j hkl2 hp
  refine T_re [(6, (.pointer (some ⟨g1, 0, none⟩))), (7, (.slice B6 32 d7)), (9, (.pointer (some ⟨g8, 0, none⟩))), (10, (.int .i64 ((j : Nat) : Int)))] (sc rfl (sc rfl (sc rfl (sc rfl sn)))) ?_
  refine T_he [0, 1, 2, 3, 4, 5] [.blk g8 26 ((pre0 (hkdf (mactag salt key) info 32) 32 j).map b8), .row (.slice B6 32 d7) 5 1 32 ((hkdf (mactag salt key) info 32).map b8), .blk g1 26 ((List.replicate 32 0#8).map b8), .rd A 1 n c (salt.map b8), .rd B 1 nt d (key.map b8), .rd E 1 ni ce (info.map b8)] ⟨by decide, rfl⟩ ?_
  refine T_seq ?_
  refine T_seq ?_
  refine T_reg hF rfl ?_
  refine L_op rfl (op_pr (pr_move rfl rfl) rfl rfl ?_)
  refine L_op rfl (op_pr (pr_cmp (bo := .lss) (nc_lt (a := j) (b := 32)) rfl rfl rfl rfl) rfl rfl ?_)
  refine L_nil ?_
  refine T_re [(6, (.pointer (some ⟨g1, 0, none⟩))), (7, (.slice B6 32 d7)), (9, (.pointer (some ⟨g8, 0, none⟩))), (10, (.int .i64 ((j : Nat) : Int))), (20, (.bool (decide (j < 32))))] (sc rfl (sc rfl (sc rfl (sc rfl (sc rfl sn))))) ?_
  refine T_he [0, 1, 2, 3, 4, 5] [.blk g8 26 ((pre0 (hkdf (mactag salt key) info 32) 32 j).map b8), .row (.slice B6 32 d7) 5 1 32 ((hkdf (mactag salt key) info 32).map b8), .blk g1 26 ((List.replicate 32 0#8).map b8), .rd A 1 n c (salt.map b8), .rd B 1 nt d (key.map b8), .rd E 1 ni ce (info.map b8)] ⟨by decide, rfl⟩ ?_
  refine T_cond (decide (j < 32)) rfl (fun hc_9 => ?_) (fun hc_9 => ?_)
  · skip
    have hc_9 := of_decide_eq_true hc_9
    refine T_skip ?_
    refine T_seq ?_
    refine T_block ?_
    refine T_reg hF rfl ?_
    refine L_op rfl (op_pr (pr_move rfl rfl) rfl rfl ?_)
    refine L_op rfl (op_pr (pr_move rfl rfl) rfl rfl ?_)
    refine L_op rfl (op_pr (pr_move rfl rfl) rfl rfl ?_)
    refine L_op rfl (op_pr (pr_ixs1 (j := j) (src_none (src_row 1 rfl)) sd Try.underlying24 (by kernel_rfl) rfl rfl rfl) rfl rfl ?_)
    refine L_op rfl (op_ld (ld_src (m := j) (src_row 1 rfl) (get8 sd) Try.underlying5 rfl rfl rfl) rfl rfl ?_)
    refine L_op rfl (op_pr (pr_ixa (j := j) (m' := j) sd (by omega) Try.underlying26 (z := 1) (by kernel_rfl) rfl rfl rfl) rfl rfl ?_)
    refine L_op rfl (op_store (vs := [(b8 (ath (hkdf (mactag salt key) info 32) j))]) (cs' := ((List.set (pre0 (hkdf (mactag salt key) info 32) 32 j) j (ath (hkdf (mactag salt key) info 32) j)).map b8)) 0 rfl rfl (by kernel_rfl) (one_one rfl) (by have : j < ((pre0 (hkdf (mactag salt key) info 32) 32 j)).length := sd; simp only [List.length_map, List.length_singleton]; omega) (splice_map (f := b8) sd) rfl rfl rfl rfl ?_)
    refine L_nil ?_
    refine T_re [(6, (.pointer (some ⟨g1, 0, none⟩))), (7, (.slice B6 32 d7)), (9, (.pointer (some ⟨g8, 0, none⟩))), (10, (.int .i64 ((j : Nat) : Int)))] (sc rfl (sc rfl (sc rfl (sc rfl sn)))) ?_
    refine T_he [0, 1, 2, 3, 4, 5] [.blk g8 26 ((List.set (pre0 (hkdf (mactag salt key) info 32) 32 j) j (ath (hkdf (mactag salt key) info 32) j)).map b8), .row (.slice B6 32 d7) 5 1 32 ((hkdf (mactag salt key) info 32).map b8), .blk g1 26 ((List.replicate 32 0#8).map b8), .rd A 1 n c (salt.map b8), .rd B 1 nt d (key.map b8), .rd E 1 ni ce (info.map b8)] ⟨by decide, rfl⟩ ?_
    refine T_reg hF rfl ?_
    refine L_op rfl (op_pr (pr_move rfl rfl) rfl rfl ?_)
    refine L_op rfl (op_pr (pr_add (na_i64 (a := j) (b := 1) sd) rfl rfl rfl) rfl rfl ?_)
    refine L_op rfl (op_pr (pr_assign rfl rfl) rfl rfl ?_)
    refine L_nil ?_
    refine T_re [(6, (.pointer (some ⟨g1, 0, none⟩))), (7, (.slice B6 32 d7)), (9, (.pointer (some ⟨g8, 0, none⟩))), (10, (.int .i64 ((j + 1 : Nat) : Int)))] (sc rfl (sc rfl (sc rfl (sc rfl sn)))) ?_
    refine T_he [0, 1, 2, 3, 4, 5] [.blk g8 26 ((List.set (pre0 (hkdf (mactag salt key) info 32) 32 j) j (ath (hkdf (mactag salt key) info 32) j)).map b8), .row (.slice B6 32 d7) 5 1 32 ((hkdf (mactag salt key) info 32).map b8), .blk g1 26 ((List.replicate 32 0#8).map b8), .rd A 1 n c (salt.map b8), .rd B 1 nt d (key.map b8), .rd E 1 ni ce (info.map b8)] ⟨by decide, rfl⟩ ?_
    refine T_as 0 (.blk g8 26 ((List.set (pre0 (hkdf (mactag salt key) info 32) 32 j) j (ath (hkdf (mactag salt key) info 32) j)).map b8)) (.blk g8 26 ((pre0 (hkdf (mactag salt key) info 32) 32 (j + 1)).map b8)) rfl (by rw [pre0_set _ _ j hkl2 (by omega) _ rfl]) ?_
    exact T_again (j + 1) (by first | trivial | ((try dsimp only); first | omega | (refine ⟨?_, ?_⟩ <;> omega) | (refine ⟨?_, ?_, ?_⟩ <;> omega) | (simp; done) | (simp; omega))) (by first | trivial | ((try dsimp only); first | omega | (refine ⟨?_, ?_⟩ <;> omega) | (refine ⟨?_, ?_, ?_⟩ <;> omega) | (simp; done) | (simp; omega))) (sc rfl (sc rfl (sc rfl (sc rfl sn)))) [0, 1, 2, 3, 4, 5] ⟨by decide, rfl⟩
  · skip
    have hc_9 := of_decide_eq_false hc_9
    refine T_exit rfl ?_
    obtain rfl : 32 = j := by omega
    refine T_seq ?_
    refine T_reg hF rfl ?_
    refine L_op rfl (op_ld (ld_agg (ds := ((pre0 (hkdf (mactag salt key) info 32) 32 32).map b8)) 0 rfl agg_all Try.underlying26 rfl (by rw [show (((pre0 (hkdf (mactag salt key) info 32) 32 32).map b8)).length = 32 from sd]; kernel_rfl) rfl rfl) rfl rfl ?_)
    refine L_op rfl (op_store (vs := ((pre0 (hkdf (mactag salt key) info 32) 32 32).map b8)) (cs' := ((pre0 (hkdf (mactag salt key) info 32) 32 32).map b8)) 2 rfl rfl (by rw [show (((pre0 (hkdf (mactag salt key) info 32) 32 32).map b8)).length = 32 from sd]; kernel_rfl) (all8_one _) (by have h1 : (((List.replicate 32 0#8).map b8)).length = 32 := (by kernel_rfl); have h2 : (((pre0 (hkdf (mactag salt key) info 32) 32 32).map b8)).length = 32 := sd; omega) (splice_all (Eq.trans (b := 32) (by kernel_rfl) (Eq.symm sd))) rfl rfl rfl rfl ?_)
    refine L_nil ?_
    refine T_re [(6, (.pointer (some ⟨g1, 0, none⟩)))] (sc rfl sn) ?_
    refine T_he [0, 1, 2, 3, 4, 5] [.blk g1 26 ((pre0 (hkdf (mactag salt key) info 32) 32 32).map b8), .blk g8 26 ((pre0 (hkdf (mactag salt key) info 32) 32 32).map b8), .row (.slice B6 32 d7) 5 1 32 ((hkdf (mactag salt key) info 32).map b8), .rd A 1 n c (salt.map b8), .rd B 1 nt d (key.map b8), .rd E 1 ni ce (info.map b8)] ⟨by decide, rfl⟩ ?_
    refine T_ret ?_
    refine T_as 0 (.blk g1 26 ((pre0 (hkdf (mactag salt key) info 32) 32 32).map b8)) (.blk g1 26 ((hkdf (mactag salt key) info 32).map b8)) rfl (by rw [pre0_all _ _ hkl2]) ?_
    exact T_fin () (by first | trivial | omega | (simp; done)) (resb 0 rfl rfl rfl Try.underlying26 rfl (by rw [show (((hkdf (mactag salt key) info 32).map b8)).length = 32 from sd]; kernel_rfl)) [] ⟨by decide, rfl⟩ rfl
end Go.Proofs.Ytmhkmamenfmolaa
