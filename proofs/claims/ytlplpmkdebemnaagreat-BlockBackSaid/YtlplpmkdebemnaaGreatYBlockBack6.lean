/- Walks by facts, part 6: what the functions that the law reaches answer. No conditions but lengths. -/
import Derived.Test.YtlplpmkdebemnaaGreatYBlockBack5
import Derived.Test.YtlplpmkdebemnaaGreatProg
import Derived.Lib.ConvBytes
import Derived.ArgAppend
import Derived.MapKept
set_option linter.unusedVariables false
set_option linter.unusedSimpArgs false
set_option linter.unnecessarySimpa false
namespace Go.Proofs.YtlplpmkdebemnaaGreat
set_option maxRecDepth 100000
open Go.RowKit Bv Fw
set_option maxHeartbeats 4000000 in
theorem pieces_seq (key : List (BitVec 8)) (info : List (BitVec 8)) (A : Option Addr) (n : Nat) (c : Nat) (g1 : Nat) (g2 : Nat) (hkl : key.length = 32) (hi : info.length = n) (hn : n ≤ 100000000) : SeqC (Θ := Option Addr) Tryz.prog 98 [(.pointer (some ⟨g1, 0, none⟩)), (.pointer (some ⟨g2, 0, none⟩))] [.rd (some ⟨g1, 0, none⟩) 1 32 32 (key.map b8), .rd (some ⟨g2, 0, none⟩) 1 1 1 [(.slice A n c)], .rd A 1 n c (info.map b8)] 255 (fun k B => [(.slice B 32 32)]) (fun k B => [.rd B 1 32 32 ((hkpc key info (k + 1)).map b8)]) := by
 have hF : Wid Fence.wide := wid_wide
 refine enter_seq (c := _) Tryz.func98 rfl (by rw [Tryz.ntmps98]; rfl) rfl ?_
 intro l J Jx W O R hsJ hsX hy hend
 rw [Tryz.ntmps98]
 refine lE [(0, (.func (.yield l) #[] #[])), (1, (.pointer (some ⟨g1, 0, none⟩))), (2, (.pointer (some ⟨g2, 0, none⟩)))] ?_
 refine lH [0, 1, 2, 3] [.inv W.heap.size O R (J 0 O R), .rd (some ⟨g1, 0, none⟩) 1 32 32 (key.map b8), .rd (some ⟨g2, 0, none⟩) 1 1 1 [(.slice A n c)], .rd A 1 n c (info.map b8)] ?_
 refine lT ?_
 refine lS ?_
 refine lN ?_
 refine lM ?_
 refine L_nil ?_
 refine T_block ?_
 refine T_rdadd (.rd none 1 0 0 []) rfl rfl rfl rfl (fun w _ => ⟨⟨rfl, Nat.le_refl _, Nat.zero_le _, fun _ => rfl, fun ad h => by cases h⟩, fun ad h => by cases h⟩) (fun r hr => by simp [HA.rids, rid] at hr) ?_
 refine T_as 0 _ (.rd none 1 0 0 ((hkpc key info 0).map b8)) rfl (by rw [hkpc_zero]; rfl) ?_
 refine T_loop (T := Nat × List Nat × List Nat × Option Addr × Nat × Nat) (fun ⟨k, O, R, lA, ln, lc⟩ => k ≤ 255 ∧ (hkpc key info k).length = ln) (fun ⟨k, O, R, lA, ln, lc⟩ => [(0, (.func (.yield l) #[] #[])), (1, (.pointer (some ⟨g1, 0, none⟩))), (2, (.pointer (some ⟨g2, 0, none⟩))), (4, (.slice lA ln lc)), (7, (.int .i64 ((k : Nat) : Int)))]) (fun ⟨k, O, R, lA, ln, lc⟩ => [.inv W.heap.size O R (J k O R), .rd lA 1 ln lc ((hkpc key info k).map b8), .rd (some ⟨g1, 0, none⟩) 1 32 32 (key.map b8), .rd (some ⟨g2, 0, none⟩) 1 1 1 [(.slice A n c)], .rd A 1 n c (info.map b8)]) (fun ⟨k, O, R, lA, ln, lc⟩ => 255 - k) (0, O, R, none, 0, 0) (by simp [hkpc_zero]) (sc rfl (sc rfl (sc rfl (sc rfl (sc rfl sn))))) [1, 0, 2, 3, 4] ⟨by decide, rfl⟩ ?_
 rintro ⟨k, O, R, lA, ln, lc⟩ hp
 have hp : k ≤ 255 ∧ (hkpc key info k).length = ln := hp
 have hle := hkpc_le key info k
 have hpl := hkpc_len key info k
 refine lE [(0, (.func (.yield l) #[] #[])), (1, (.pointer (some ⟨g1, 0, none⟩))), (2, (.pointer (some ⟨g2, 0, none⟩))), (4, (.slice lA ln lc)), (7, (.int .i64 ((k : Nat) : Int)))] ?_
 refine lH [0, 1, 2, 3, 4] [.inv W.heap.size O R (J k O R), .rd lA 1 ln lc ((hkpc key info k).map b8), .rd (some ⟨g1, 0, none⟩) 1 32 32 (key.map b8), .rd (some ⟨g2, 0, none⟩) 1 1 1 [(.slice A n c)], .rd A 1 n c (info.map b8)] ?_
 refine lT ?_
 refine lO (pr_cmp (bo := .lss) (nc_lt (a := k) (b := 255)) rfl rfl rfl rfl) ?_
 refine L_nil ?_
 refine T_seq ?_
 refine T_cond (decide (k < 255)) rfl (fun hc_1 => ?_) (fun hc_1 => ?_)
 ·have hc_1 := of_decide_eq_true hc_1
  refine T_skip ?_
  refine T_seq ?_
  refine T_block ?_
  refine lT ?_
  refine lM ?_
  refine lS ?_
  refine L_nil ?_
  refine T_seq ?_
  refine T_regD [.inv W.heap.size O R (J k O R), .rd lA 1 ln lc ((hkpc key info k).map b8), .rd (some ⟨g1, 0, none⟩) 1 32 32 (key.map b8), .rd (some ⟨g2, 0, none⟩) 1 1 1 [(.slice A n c)], .rd A 1 n c (info.map b8)] 11 11 #[false, false, false, false, false, false, false, false, false, false, false] hF kr kr ?_
  refine D_pure (i := 0) [0, 1, 2, 3, 4] rfl kr rfl (pr_sla (l := 0) (u := 32) (m := 0) sd sd sd rfl Tryz.underlying22 (z := 1) kr rfl rfl rfl rfl) (.inr rfl) rfl rfl ?_
  refine D_pure (i := 1) [0, 1, 2, 3, 4] rfl kr rfl (pr_move rfl rfl) (.inr rfl) rfl rfl ?_
  refine D_pure (i := 3) [0, 1, 2, 3, 4] rfl kr rfl (pr_move rfl rfl) (.inr rfl) rfl rfl ?_
  refine D_pure (i := 4) [0, 1, 2, 3, 4] rfl kr rfl (pr_add (na_i64 (a := k) (b := 1) sd) rfl rfl rfl) (.inr rfl) rfl rfl ?_
  refine D_pure (i := 5) [0, 1, 2, 3, 4] rfl kr rfl (pr_cv (nw8 (k + 1)) Tryz.underlying3 Tryz.underlying5 rfl rfl) (.inr rfl) rfl rfl ?_
  refine D_take (i := 2) [0, 1, 2, 3, 4] rfl kr rfl (ld_rdb (src_rd 3 rfl) rfl Tryz.underlying27 rfl rfl rfl) rfl rfl rfl ?_
  refine D_join (T := Nat) (fun _ => True) (fun g7 => [(0, (.func (.yield l) #[] #[])), (1, (.pointer (some ⟨g1, 0, none⟩))), (2, (.pointer (some ⟨g2, 0, none⟩))), (6, (.pointer (some ⟨g7, 0, none⟩))), (7, (.int .i64 ((k : Nat) : Int)))]) (fun g7 => [.blk g7 22 ((hkpc key info (k + 1)).map b8), .inv W.heap.size O R (J k O R), .rd lA 1 ln lc ((hkpc key info k).map b8), .rd (some ⟨g1, 0, none⟩) 1 32 32 (key.map b8), .rd (some ⟨g2, 0, none⟩) 1 1 1 [(.slice A n c)], .rd A 1 n c (info.map b8)]) ?_ ?_
  ·refine D_all [6, 9] kr (by simp) ⟨⟨_, rfl, rfl, ?_⟩, ⟨_, rfl, rfl, ?_⟩, trivial⟩
   ·refine id (op_bslice (e := 5) (zs := [(b8 (BitVec.ofNat 8 (k + 1)))]) (qs := [(0, (b8 (BitVec.ofNat 8 (k + 1))))]) (fun _ => by kernel_rfl) rfl rfl rfl rfl (fun g8 => ?_))
    refine D_on [1, 2, 3, 4, 5] rfl ?_
    refine D_all [7, 9] kr (by simp) ⟨⟨_, rfl, rfl, ?_⟩, ⟨_, rfl, rfl, ?_⟩, trivial⟩
    ·refine id (op_bslice (e := 27) (zs := [(.slice lA ln lc), (.slice A n c), (.slice (some ⟨g8, 0, none⟩) 1 1)]) (qs := [(0, (.slice lA ln lc)), (1, (.slice A n c)), (2, (.slice (some ⟨g8, 0, none⟩) 1 1))]) (fun _ => by kernel_rfl) rfl rfl rfl rfl (fun g9 => ?_))
     refine D_on [2, 3, 4, 5, 6] rfl ?_
     refine D_all [8, 9] kr (by simp) ⟨⟨_, rfl, rfl, ?_⟩, ⟨_, rfl, rfl, ?_⟩, trivial⟩
     ·refine id (op_cn (fun w hw => tag_f key (some ⟨g1, 0, none⟩) 32 32 ([(Pt.mk lA ln lc (hkpc key info k)), (Pt.mk A n c info), (Pt.mk (some ⟨g8, 0, none⟩) 1 1 [(BitVec.ofNat 8 (k + 1))])]) (some ⟨g9, 0, none⟩) 3 3 w (hok_cons ((src_rd 4 rfl) w hw) (hok_cons ((src_full (z := 1) 0 rfl rfl sd sd) w hw) (hok_cons (all_cons ((src_rd 3 rfl) w hw) (all_cons ((src_rd 6 rfl) w hw) (all_cons ((src_full (z := 1) 1 rfl rfl sd sd) w hw) (all_nil w)))) (hok_nil w)))) aS sd sd sd (by simp [catp_cons, catp_nil]; omega)) (enters_of Tryz.func91 kr rfl) rfl rfl rfl rfl rfl (fun t10 q11 => ?_))
      refine T_slot 18 _ (.agg ((hkpc key info (k + 1)).map b8).toArray) rfl (by rw [hkpc_succ]; simp [catp_cons, catp_nil]) ?_
      refine D_on [2, 3, 4, 5, 6] rfl ?_
      refine D_one 9 _ rfl kr rfl (op_alloc (z := .agg ((List.replicate 32 0#8).map b8).toArray) (zs := ((List.replicate 32 0#8).map b8)) kr rfl rfl rfl rfl (fun g12 => ?_))
      refine D_on [3, 4, 5, 6, 7] rfl ?_
      refine D_one 10 _ rfl kr rfl (op_sto (n := 32) (vs := ((hkpc key info (k + 1)).map b8)) 0 rfl rfl kr (all8_one _) kr sd rfl rfl rfl rfl ?_)
      refine D_on [3, 4, 5, 6, 7] rfl ?_
      refine D_done kr ?_
      exact T_meet g12 trivial (sc rfl (sc rfl (sc rfl (sc rfl (sc rfl sn))))) [0, 3, 4, 5, 6, 7] ⟨by decide, rfl⟩
     refine id (op_alloc (z := .agg ((List.replicate 32 0#8).map b8).toArray) (zs := ((List.replicate 32 0#8).map b8)) kr rfl rfl rfl rfl (fun g13 => ?_))
     refine D_on [3, 4, 5, 6, 7] rfl ?_
     refine D_one 8 _ rfl kr rfl (op_cn (fun w hw => tag_f key (some ⟨g1, 0, none⟩) 32 32 ([(Pt.mk lA ln lc (hkpc key info k)), (Pt.mk A n c info), (Pt.mk (some ⟨g8, 0, none⟩) 1 1 [(BitVec.ofNat 8 (k + 1))])]) (some ⟨g9, 0, none⟩) 3 3 w (hok_cons ((src_rd 5 rfl) w hw) (hok_cons ((src_full (z := 1) 1 rfl rfl sd sd) w hw) (hok_cons (all_cons ((src_rd 4 rfl) w hw) (all_cons ((src_rd 7 rfl) w hw) (all_cons ((src_full (z := 1) 2 rfl rfl sd sd) w hw) (all_nil w)))) (hok_nil w)))) aS sd sd sd (by simp [catp_cons, catp_nil]; omega)) (enters_of Tryz.func91 kr rfl) rfl rfl rfl rfl rfl (fun t14 q15 => ?_))
     refine T_slot 18 _ (.agg ((hkpc key info (k + 1)).map b8).toArray) rfl (by rw [hkpc_succ]; simp [catp_cons, catp_nil]) ?_
     refine D_on [3, 4, 5, 6, 7] rfl ?_
     refine D_one 10 _ rfl kr rfl (op_sto (n := 32) (vs := ((hkpc key info (k + 1)).map b8)) 0 rfl rfl kr (all8_one _) kr sd rfl rfl rfl rfl ?_)
     refine D_on [3, 4, 5, 6, 7] rfl ?_
     refine D_done kr ?_
     exact T_meet g13 trivial (sc rfl (sc rfl (sc rfl (sc rfl (sc rfl sn))))) [0, 3, 4, 5, 6, 7] ⟨by decide, rfl⟩
    refine id (op_alloc (z := .agg ((List.replicate 32 0#8).map b8).toArray) (zs := ((List.replicate 32 0#8).map b8)) kr rfl rfl rfl rfl (fun g16 => ?_))
    refine D_on [2, 3, 4, 5, 6] rfl ?_
    refine D_one 7 _ rfl kr rfl (op_bslice (e := 27) (zs := [(.slice lA ln lc), (.slice A n c), (.slice (some ⟨g8, 0, none⟩) 1 1)]) (qs := [(0, (.slice lA ln lc)), (1, (.slice A n c)), (2, (.slice (some ⟨g8, 0, none⟩) 1 1))]) (fun _ => by kernel_rfl) rfl rfl rfl rfl (fun g17 => ?_))
    refine D_on [3, 4, 5, 6, 7] rfl ?_
    refine D_one 8 _ rfl kr rfl (op_cn (fun w hw => tag_f key (some ⟨g1, 0, none⟩) 32 32 ([(Pt.mk lA ln lc (hkpc key info k)), (Pt.mk A n c info), (Pt.mk (some ⟨g8, 0, none⟩) 1 1 [(BitVec.ofNat 8 (k + 1))])]) (some ⟨g17, 0, none⟩) 3 3 w (hok_cons ((src_rd 5 rfl) w hw) (hok_cons ((src_full (z := 1) 0 rfl rfl sd sd) w hw) (hok_cons (all_cons ((src_rd 4 rfl) w hw) (all_cons ((src_rd 7 rfl) w hw) (all_cons ((src_full (z := 1) 2 rfl rfl sd sd) w hw) (all_nil w)))) (hok_nil w)))) aS sd sd sd (by simp [catp_cons, catp_nil]; omega)) (enters_of Tryz.func91 kr rfl) rfl rfl rfl rfl rfl (fun t18 q19 => ?_))
    refine T_slot 18 _ (.agg ((hkpc key info (k + 1)).map b8).toArray) rfl (by rw [hkpc_succ]; simp [catp_cons, catp_nil]) ?_
    refine D_on [3, 4, 5, 6, 7] rfl ?_
    refine D_one 10 _ rfl kr rfl (op_sto (n := 32) (vs := ((hkpc key info (k + 1)).map b8)) 1 rfl rfl kr (all8_one _) kr sd rfl rfl rfl rfl ?_)
    refine D_on [3, 4, 5, 6, 7] rfl ?_
    refine D_done kr ?_
    exact T_meet g16 trivial (sc rfl (sc rfl (sc rfl (sc rfl (sc rfl sn))))) [0, 3, 4, 5, 6, 7] ⟨by decide, rfl⟩
   refine id (op_alloc (z := .agg ((List.replicate 32 0#8).map b8).toArray) (zs := ((List.replicate 32 0#8).map b8)) kr rfl rfl rfl rfl (fun g20 => ?_))
   refine D_on [1, 2, 3, 4, 5] rfl ?_
   refine D_one 6 _ rfl kr rfl (op_bslice (e := 5) (zs := [(b8 (BitVec.ofNat 8 (k + 1)))]) (qs := [(0, (b8 (BitVec.ofNat 8 (k + 1))))]) (fun _ => by kernel_rfl) rfl rfl rfl rfl (fun g21 => ?_))
   refine D_on [2, 3, 4, 5, 6] rfl ?_
   refine D_one 7 _ rfl kr rfl (op_bslice (e := 27) (zs := [(.slice lA ln lc), (.slice A n c), (.slice (some ⟨g21, 0, none⟩) 1 1)]) (qs := [(0, (.slice lA ln lc)), (1, (.slice A n c)), (2, (.slice (some ⟨g21, 0, none⟩) 1 1))]) (fun _ => by kernel_rfl) rfl rfl rfl rfl (fun g22 => ?_))
   refine D_on [3, 4, 5, 6, 7] rfl ?_
   refine D_one 8 _ rfl kr rfl (op_cn (fun w hw => tag_f key (some ⟨g1, 0, none⟩) 32 32 ([(Pt.mk lA ln lc (hkpc key info k)), (Pt.mk A n c info), (Pt.mk (some ⟨g21, 0, none⟩) 1 1 [(BitVec.ofNat 8 (k + 1))])]) (some ⟨g22, 0, none⟩) 3 3 w (hok_cons ((src_rd 5 rfl) w hw) (hok_cons ((src_full (z := 1) 0 rfl rfl sd sd) w hw) (hok_cons (all_cons ((src_rd 4 rfl) w hw) (all_cons ((src_rd 7 rfl) w hw) (all_cons ((src_full (z := 1) 1 rfl rfl sd sd) w hw) (all_nil w)))) (hok_nil w)))) aS sd sd sd (by simp [catp_cons, catp_nil]; omega)) (enters_of Tryz.func91 kr rfl) rfl rfl rfl rfl rfl (fun t23 q24 => ?_))
   refine T_slot 18 _ (.agg ((hkpc key info (k + 1)).map b8).toArray) rfl (by rw [hkpc_succ]; simp [catp_cons, catp_nil]) ?_
   refine D_on [3, 4, 5, 6, 7] rfl ?_
   refine D_one 10 _ rfl kr rfl (op_sto (n := 32) (vs := ((hkpc key info (k + 1)).map b8)) 2 rfl rfl kr (all8_one _) kr sd rfl rfl rfl rfl ?_)
   refine D_on [3, 4, 5, 6, 7] rfl ?_
   refine D_done kr ?_
   exact T_meet g20 trivial (sc rfl (sc rfl (sc rfl (sc rfl (sc rfl sn))))) [0, 3, 4, 5, 6, 7] ⟨by decide, rfl⟩
  rintro g7 -
  refine lE [(0, (.func (.yield l) #[] #[])), (1, (.pointer (some ⟨g1, 0, none⟩))), (2, (.pointer (some ⟨g2, 0, none⟩))), (6, (.pointer (some ⟨g7, 0, none⟩))), (7, (.int .i64 ((k : Nat) : Int)))] ?_
  refine lH [0, 1, 2, 3, 4, 5] [.blk g7 22 ((hkpc key info (k + 1)).map b8), .inv W.heap.size O R (J k O R), .rd lA 1 ln lc ((hkpc key info k).map b8), .rd (some ⟨g1, 0, none⟩) 1 32 32 (key.map b8), .rd (some ⟨g2, 0, none⟩) 1 1 1 [(.slice A n c)], .rd A 1 n c (info.map b8)] ?_
  refine lT ?_
  refine lO (pr_sla (l := 0) (u := 32) (m := 0) sd sd sd rfl Tryz.underlying22 (z := 1) kr rfl rfl rfl rfl) ?_
  refine T_oldb 0 (zs := ((hkpc key info (k + 1)).map b8)) 0 1 32 32 rfl (by simp; omega) (by rw [List.drop_zero, List.take_of_length_le (by simp; omega)]) oM oM ?_
  refine T_tord 0 rfl ?_
  refine lS ?_
  refine L_nil ?_
  refine T_seq ?_
  refine T_regI ?_
  refine LI_opP hF rfl rfl (op_pr (pr_move rfl rfl) rfl rfl ?_)
  refine LI_opP hF rfl rfl (op_pr (pr_move rfl rfl) rfl rfl ?_)
  refine LI_op rfl (op_yield (k := k) (some ⟨g7, 0, none⟩ : Option Addr) hy sd hsJ hsX 1 rfl [0] rfl rfl rfl rfl rfl rfl rfl rfl rfl (fun _ => trivial) (fun O25 R26 => ?_) (fun O27 R28 => ?_))
  ·refine LI_opP hF rfl rfl (op_pr (pr_un (v := .bool false) rfl rfl rfl) rfl rfl ?_)
   refine LI_nil ?_
   refine T_cond_f rfl ?_
   refine T_skip ?_
   refine lR ?_
   refine lO (pr_add (na_i64 (a := k) (b := 1) sd) rfl rfl rfl) ?_
   refine lM ?_
   refine L_nil ?_
   exact T_again (k + 1, O25, R26, some ⟨g7, 0, none⟩, 32, 32) (by simp; omega) pN (sc rfl (sc rfl (sc rfl (sc rfl (sc rfl sn))))) [0, 1, 3, 4, 5] ⟨by decide, rfl⟩
  refine LI_opP hF rfl rfl (op_pr (pr_un (v := .bool true) rfl rfl rfl) rfl rfl ?_)
  refine LI_nil ?_
  refine T_cond_t rfl ?_
  refine T_ret ?_
  exact T_finX rfl rfl 0 rfl
 have hc_1 := of_decide_eq_false hc_1
 refine T_exit rfl ?_
 obtain rfl : k = 255 := by omega
 exact T_finJ rfl rfl 0 rfl
set_option maxHeartbeats 4000000 in
theorem pieces_f (key : List (BitVec 8)) (A : Option Addr) (n : Nat) (c : Nat) (w : World) (hO : HOK [] w) (hkl : key.length = 32) : Calls Tryz.prog 90 [(.agg (key.map b8).toArray), (.slice A n c)].toArray w (Ret (T := Nat × Nat) [] w (fun ⟨g1, g2⟩ => True) (fun ⟨g1, g2⟩ => (.func (.func 98) #[] [(.pointer (some ⟨g1, 0, none⟩)), (.pointer (some ⟨g2, 0, none⟩))].toArray)) (fun ⟨g1, g2⟩ => [.old (some ⟨g1, 0, none⟩) 1 32 32 (key.map b8), .old (some ⟨g2, 0, none⟩) 1 1 1 [(.slice A n c)]])) := by
 refine enter (c := _) Tryz.func90 rfl [] _ [] (by rw [Tryz.ntmps90]; rfl) (own_rds hO rfl) ?_
 rw [Tryz.ntmps90]
 refine lE [(0, (.agg (key.map b8).toArray)), (1, (.slice A n c))] ?_
 refine lH [] [] ?_
 refine lT ?_
 refine L_op rfl (op_box (zs := (key.map b8)) rfl rfl rfl rfl rfl (fun g1 => ?_))
 refine L_op rfl (op_box (zs := [(.slice A n c)]) rfl rfl rfl rfl rfl (fun g2 => ?_))
 refine lS ?_
 refine lN ?_
 refine lO (pr_mkfn (us := []) (vs := [(.pointer (some ⟨g1, 0, none⟩)), (.pointer (some ⟨g2, 0, none⟩))]) rfl rfl rfl) ?_
 refine lS ?_
 refine L_nil ?_
 refine T_ret ?_
 refine T_oldb 1 (zs := (key.map b8)) 0 1 32 32 rfl sd (by rw [List.drop_zero, List.take_of_length_le (by simp; omega)]) sd sd ?_
 refine T_oldb 1 (zs := [(.slice A n c)]) 0 1 1 1 rfl rfl rfl sd sd ?_
 exact T_fin (g1, g2) qN (res1 rfl rfl) [1, 0] ⟨by decide, rfl⟩ rfl
set_option maxHeartbeats 4000000 in
theorem extract_f (salt : List (BitVec 8)) (A : Option Addr) (n : Nat) (c : Nat) (key : List (BitVec 8)) (B : Option Addr) (nt : Nat) (d : Nat) (w : World) (hO : HOK [.rd A 1 n c (salt.map b8), .rd B 1 nt d (key.map b8)] w) (hx : salt.length = n) (hn : n ≤ 900000000) (ht : key.length = nt) (hnt : nt ≤ 900000000) : Calls Tryz.prog 72 [(.slice A n c), (.slice B nt d)].toArray w (Ret (T := Unit) [] w (fun _ => True) (fun _ => (.agg ((mactag salt key).map b8).toArray)) (fun _ => [])) := by
 have hml := mactag_len salt key
 refine enter (c := _) Tryz.func72 rfl [] _ [.rd A 1 n c (salt.map b8), .rd B 1 nt d (key.map b8)] (by rw [Tryz.ntmps72]; rfl) (own_rds hO rfl) ?_
 rw [Tryz.ntmps72]
 refine lE [(0, (.slice A n c)), (1, (.slice B nt d))] ?_
 refine lH [0, 1] [.rd A 1 n c (salt.map b8), .rd B 1 nt d (key.map b8)] ?_
 refine lT ?_
 refine L_op rfl (op_alloc (z := .agg ((List.replicate 32 0#8).map b8).toArray) (zs := ((List.replicate 32 0#8).map b8)) kr rfl rfl rfl rfl (fun g1 => ?_))
 refine lN ?_
 refine lM ?_
 refine lM ?_
 refine L_op rfl (op_bslice (e := 27) (zs := [(.slice B nt d)]) (qs := [(0, (.slice B nt d))]) (fun _ => by kernel_rfl) rfl rfl rfl rfl (fun g2 => ?_))
 refine L_op rfl (op_cn (fun w hw => tag_f salt A n c [(Pt.mk B nt d key)] (some ⟨g2, 0, none⟩) 1 1 w (hok_cons ((src_rd 2 rfl) w hw) (hok_cons ((src_full (z := 1) 0 rfl rfl sd sd) w hw) (hok_cons (all_cons ((src_rd 3 rfl) w hw) (all_nil w)) (hok_nil w)))) aS sd sd sd (by simp only [catp_cons, catp_nil, List.append_nil, List.length_append]; omega)) (enters_of Tryz.func91 kr rfl) rfl rfl rfl rfl rfl (fun t3 q4 => ?_))
 refine T_slot 8 _ (.agg ((mactag salt key).map b8).toArray) rfl (by simp [catp_cons, catp_nil]) ?_
 refine L_op rfl (op_sto (n := 32) (vs := ((mactag salt key).map b8)) 1 rfl rfl kr (all8_one _) kr sd rfl rfl rfl rfl ?_)
 refine L_nil ?_
 refine T_ret ?_
 exact T_fin () qN (resb 0 rfl rfl rfl Tryz.underlying22 rfl (fwz (n := 32) kr sd)) [] ⟨by decide, rfl⟩ rfl
set_option maxHeartbeats 4000000 in
theorem rextract_f (salt : List (BitVec 8)) (A : Option Addr) (n : Nat) (c : Nat) (key : List (BitVec 8)) (B : Option Addr) (nt : Nat) (d : Nat) (w : World) (hO : HOK [.rd A 1 n c (salt.map b8), .rd B 1 nt d (key.map b8)] w) (hx : salt.length = n) (hn : n ≤ 900000000) (ht : key.length = nt) (hnt : nt ≤ 900000000) : Calls Tryz.prog 64 [(.slice A n c), (.slice B nt d)].toArray w (Ret (T := Unit) [] w (fun _ => True) (fun _ => (.agg ((mactag salt key).map b8).toArray)) (fun _ => [])) := by
 have hml := mactag_len salt key
 refine enter (c := _) Tryz.func64 rfl [] _ [.rd A 1 n c (salt.map b8), .rd B 1 nt d (key.map b8)] (by rw [Tryz.ntmps64]; rfl) (own_rds hO rfl) ?_
 rw [Tryz.ntmps64]
 refine lE [(0, (.slice A n c)), (1, (.slice B nt d))] ?_
 refine lH [0, 1] [.rd A 1 n c (salt.map b8), .rd B 1 nt d (key.map b8)] ?_
 refine lT ?_
 refine L_op rfl (op_alloc (z := .agg ((List.replicate 32 0#8).map b8).toArray) (zs := ((List.replicate 32 0#8).map b8)) kr rfl rfl rfl rfl (fun g1 => ?_))
 refine lN ?_
 refine lM ?_
 refine lM ?_
 refine L_op rfl (op_cn (fun w hw => rtag_f salt A n c key B nt d w (hok_cons ((src_rd 1 rfl) w hw) (hok_cons ((src_rd 2 rfl) w hw) (hok_nil w))) aS sd aS sd) (enters_of Tryz.func89 kr rfl) rfl rfl rfl rfl rfl (fun t2 q3 => ?_))
 refine L_op rfl (op_sto (n := 32) (vs := ((mactag salt key).map b8)) 0 rfl rfl kr (all8_one _) kr sd rfl rfl rfl rfl ?_)
 refine L_nil ?_
 refine T_ret ?_
 exact T_fin () qN (resb 0 rfl rfl rfl Tryz.underlying22 rfl (fwz (n := 32) kr sd)) [] ⟨by decide, rfl⟩ rfl
set_option maxHeartbeats 4000000 in
theorem rexpand_f (key : List (BitVec 8)) (info : List (BitVec 8)) (A : Option Addr) (ni : Nat) (c : Nat) (n : Nat) (w : World) (hO : HOK [.rd A 1 ni c (info.map b8)] w) (hkl : key.length = 32) (hi : info.length = ni) (hni : ni ≤ 100000000) (h1 : 1 ≤ n) (h2 : n ≤ 8160) : Calls Tryz.prog 63 [(.agg (key.map b8).toArray), (.slice A ni c), (.int .i64 ((n : Nat) : Int))].toArray w (Ret (T := Option Addr × Nat) [] w (fun ⟨B, d⟩ => True) (fun ⟨B, d⟩ => (.tuple [(.slice B n d), (.int .i64 ((0 : Nat) : Int))].toArray)) (fun ⟨B, d⟩ => [.row (.slice B n d) 5 1 n ((hkdf key info n).map b8)])) := by
 refine enter (c := _) Tryz.func63 rfl [] _ [.rd A 1 ni c (info.map b8)] (by rw [Tryz.ntmps63]; rfl) (own_rds hO rfl) ?_
 rw [Tryz.ntmps63]
 refine lE [(0, (.agg (key.map b8).toArray)), (1, (.slice A ni c)), (2, (.int .i64 ((n : Nat) : Int)))] ?_
 refine lH [0] [.rd A 1 ni c (info.map b8)] ?_
 refine lT ?_
 refine L_op rfl (op_box (zs := (key.map b8)) rfl rfl rfl rfl rfl (fun g1 => ?_))
 refine lS ?_
 refine lS ?_
 refine L_nil ?_
 refine T_seq ?_
 refine lT ?_
 refine lM ?_
 refine lO (pr_cmp (bo := .lss) (nc_lt (a := n) (b := 1)) rfl rfl rfl rfl) ?_
 refine lM ?_
 refine T_slot 15 (.bool (decide (n < 1))) (.bool false) rfl (congrArg _ (by simp; omega)) ?_
 refine lM ?_
 refine lO (pr_cmp (bo := .gtr) (nc_lt (a := 8160) (b := n)) rfl rfl rfl rfl) ?_
 refine lO (pr_pick_f rfl rfl rfl) ?_
 refine L_nil ?_
 refine T_cond_no (t := decide (8160 < n)) rfl (by simp; omega) ?_
 refine T_skip ?_
 refine lT ?_
 refine lS ?_
 refine lS ?_
 refine L_nil ?_
 refine T_seq ?_
 refine lT ?_
 refine lS ?_
 refine L_nil ?_
 refine T_block ?_
 refine T_nilrow 5 1 ?_
 refine T_as 0 _ (.row (.slice none 0 0) 5 1 0 ((hkpc key info 0).map b8)) rfl (by rw [hkpc_zero]; rfl) ?_
 refine T_nilrow 5 1 ?_
 refine T_as 0 _ (.row (.slice none 0 0) 5 1 0 ((hkout key info 0).map b8)) rfl (by rw [hkout_zero]; rfl) ?_
 refine T_slot 8 (.slice none 0 0) (.slice none (32 * 0) 0) rfl (by rfl) ?_
 refine T_slot 10 (.int .i64 ((1 : Nat) : Int)) (.int .i64 ((0 + 1 : Nat) : Int)) rfl (by rfl) ?_
 refine T_as 0 _ (.row (.slice none (32 * 0) 0) 5 1 (32 * 0) ((hkout key info 0).map b8)) rfl (by rfl) ?_
 refine T_loop (T := Nat × Option Addr × Nat × Option Addr × Nat × Nat) (fun ⟨k, A1, c1, A2, ln, c2⟩ => 32 * k < n + 32 ∧ (hkpc key info k).length = ln) (fun ⟨k, A1, c1, A2, ln, c2⟩ => [(1, (.slice A ni c)), (2, (.int .i64 ((n : Nat) : Int))), (3, (.pointer (some ⟨g1, 0, none⟩))), (8, (.slice A1 (32 * k) c1)), (9, (.slice A2 ln c2)), (10, (.int .i64 ((k + 1 : Nat) : Int)))]) (fun ⟨k, A1, c1, A2, ln, c2⟩ => [.row (.slice A1 (32 * k) c1) 5 1 (32 * k) ((hkout key info k).map b8), .row (.slice A2 ln c2) 5 1 ln ((hkpc key info k).map b8), .blk g1 22 (key.map b8), .rd A 1 ni c (info.map b8)]) (fun ⟨k, A1, c1, A2, ln, c2⟩ => n + 32 - 32 * k) (0, none, 0, none, 0, 0) (by simp [hkpc_zero]) (sc rfl (sc rfl (sc rfl (sc rfl (sc rfl (sc rfl sn)))))) [0, 1, 2, 3] ⟨by decide, rfl⟩ ?_
 rintro ⟨k, A1, c1, A2, ln, c2⟩ hp
 have hp : 32 * k < n + 32 ∧ (hkpc key info k).length = ln := hp
 have hle := hkpc_le key info k
 have hpl := hkpc_len key info k
 have hol := hkout_len key info k
 refine lE [(1, (.slice A ni c)), (2, (.int .i64 ((n : Nat) : Int))), (3, (.pointer (some ⟨g1, 0, none⟩))), (8, (.slice A1 (32 * k) c1)), (9, (.slice A2 ln c2)), (10, (.int .i64 ((k + 1 : Nat) : Int)))] ?_
 refine lH [0, 1, 2, 3] [.row (.slice A1 (32 * k) c1) 5 1 (32 * k) ((hkout key info k).map b8), .row (.slice A2 ln c2) 5 1 ln ((hkpc key info k).map b8), .blk g1 22 (key.map b8), .rd A 1 ni c (info.map b8)] ?_
 refine T_seq ?_
 refine lT ?_
 refine lM ?_
 refine lO (pr_len_sl Tryz.underlying27 rfl rfl) ?_
 refine lM ?_
 refine lO (pr_cmp (bo := .lss) (nc_lt (a := 32 * k) (b := n)) rfl rfl rfl rfl) ?_
 refine L_nil ?_
 refine T_cond (decide (32 * k < n)) rfl (fun hc_3 => ?_) (fun hc_3 => ?_)
 ·have hc_3 := of_decide_eq_true hc_3
  refine T_skip ?_
  refine T_seq ?_
  refine T_block ?_
  refine lT ?_
  refine lM ?_
  refine T_nilrow 5 1 ?_
  refine L_op rfl (op_append (z := (b8 (0#8))) (size := 1) (bytes := 1) 0 rfl Tryz.underlying27 kr kr (by decide) (src_row 2 rfl) (all8_one _) sd sd rfl rfl rfl rfl rfl (fun A4 C5 => ?_))
  refine T_as 0 _ (.row (.slice A4 (0 + ln) C5) 5 1 (0 + ln) ((hkpc key info k).map b8)) rfl (by rfl) ?_
  refine lM ?_
  refine L_op rfl (op_append (z := (b8 (0#8))) (size := 1) (bytes := 1) 0 rfl Tryz.underlying27 kr kr (by decide) (src_rd 4 rfl) (all8_one _) sd sd rfl rfl rfl rfl rfl (fun A6 C7 => ?_))
  refine T_as 0 _ (.row (.slice A6 (0 + ln + ni) C7) 5 1 (0 + ln + ni) (((hkpc key info k) ++ info).map b8)) rfl (by congr 1; simp; done) ?_
  refine lM ?_
  refine lO (pr_cv (nw8 (k + 1)) Tryz.underlying3 Tryz.underlying5 rfl rfl) ?_
  refine L_op rfl (op_bslice (e := 5) (zs := [(b8 (BitVec.ofNat 8 (k + 1)))]) (qs := [(0, (b8 (BitVec.ofNat 8 (k + 1))))]) (fun _ => by kernel_rfl) rfl rfl rfl rfl (fun g8 => ?_))
  refine L_op rfl (op_append (z := (b8 (0#8))) (size := 1) (bytes := 1) 1 rfl Tryz.underlying27 kr kr (by decide) (src_full (z := 1) 0 rfl rfl sd sd) (by simp [Value.oneCell']) sd sd rfl rfl rfl rfl rfl (fun A9 C10 => ?_))
  refine T_as 0 _ (.row (.slice A9 (0 + ln + ni + 1) C10) 5 1 (0 + ln + ni + 1) ((((hkpc key info k) ++ info) ++ [(BitVec.ofNat 8 (k + 1))]).map b8)) rfl (by congr 1; simp; done) ?_
  refine lS ?_
  refine lN ?_
  refine lO (pr_sla (l := 0) (u := 32) (m := 0) sd sd sd rfl Tryz.underlying22 (z := 1) kr rfl rfl rfl rfl) ?_
  refine lM ?_
  refine L_op rfl (op_cn (fun w hw => rtag_f key (some ⟨g1, 0, none⟩) 32 32 (((hkpc key info k) ++ info) ++ [(BitVec.ofNat 8 (k + 1))]) A9 (0 + ln + ni + 1) C10 w (hok_cons ((src_full (z := 1) 4 rfl sd sd sd) w hw) (hok_cons ((src_row 0 rfl) w hw) (hok_nil w))) aS sd (by simp; omega) sd) (enters_of Tryz.func89 kr rfl) rfl rfl rfl rfl rfl (fun t11 q12 => ?_))
  refine T_slot 35 _ (.agg ((hkpc key info (k + 1)).map b8).toArray) rfl (by rw [hkpc_succ]) ?_
  refine L_op rfl (op_alloc (z := .agg ((List.replicate 32 0#8).map b8).toArray) (zs := ((List.replicate 32 0#8).map b8)) kr rfl rfl rfl rfl (fun g13 => ?_))
  refine L_op rfl (op_sto (n := 32) (vs := ((hkpc key info (k + 1)).map b8)) 0 rfl rfl kr (all8_one _) kr sd rfl rfl rfl rfl ?_)
  refine lN ?_
  refine lO (pr_sla (l := 0) (u := 32) (m := 0) sd sd sd rfl Tryz.underlying22 (z := 1) kr rfl rfl rfl rfl) ?_
  refine T_nilrow 5 1 ?_
  refine L_op rfl (op_append (z := (b8 (0#8))) (size := 1) (bytes := 1) 0 rfl Tryz.underlying27 kr kr (by decide) (src_full (z := 1) 1 rfl sd sd sd) (all8_one _) sd sd rfl rfl rfl rfl rfl (fun A14 C15 => ?_))
  refine T_as 0 _ (.row (.slice A14 32 C15) 5 1 32 ((hkpc key info (k + 1)).map b8)) rfl (by rfl) ?_
  refine T_slot 37 (.slice A14 (0 + 32) C15) (.slice A14 32 C15) rfl rfl ?_
  refine lS ?_
  refine L_nil ?_
  refine lR ?_
  refine lM ?_
  refine lM ?_
  refine L_op rfl (op_append (z := (b8 (0#8))) (size := 1) (bytes := 1) 4 rfl Tryz.underlying27 kr kr (by decide) (src_row 0 rfl) (all8_one _) sd sd rfl rfl rfl rfl rfl (fun A16 C17 => ?_))
  refine T_as 0 _ (.row (.slice A16 (32 * k + 32) C17) 5 1 (32 * k + 32) (((hkout key info k) ++ (hkpc key info (k + 1))).map b8)) rfl (by congr 1; simp; done) ?_
  refine lS ?_
  refine L_nil ?_
  refine lR ?_
  refine lM ?_
  refine lO (pr_add (na_i64 (a := k + 1) (b := 1) sd) rfl rfl rfl) ?_
  refine lS ?_
  refine L_nil ?_
  refine T_slot 8 (.slice A16 (32 * k + 32) C17) (.slice A16 (32 * (k + 1)) C17) rfl (by congr 1) ?_
  refine T_slot 10 (.int .i64 ((k + 1 + 1 : Nat) : Int)) (.int .i64 (((k + 1) + 1 : Nat) : Int)) rfl (by congr 1) ?_
  refine T_as 0 _ (.row (.slice A16 (32 * (k + 1)) C17) 5 1 (32 * (k + 1)) ((hkout key info (k + 1)).map b8)) rfl (by rw [hkout_succ]; congr 1) ?_
  exact T_again (k + 1, A16, C17, A14, 32, C15) (by simp; omega) (by dsimp only; omega) (sc rfl (sc rfl (sc rfl (sc rfl (sc rfl (sc rfl sn)))))) [0, 1, 6, 7] ⟨by decide, rfl⟩
 have hc_3 := of_decide_eq_false hc_3
 refine T_exit rfl ?_
 refine lT ?_
 refine lM ?_
 refine lM ?_
 refine L_op rfl (op_reslice (u := n) 0 rfl sd Tryz.underlying27 kr rfl rfl rfl rfl rfl ?_)
 refine T_as 0 _ (.row (.slice A1 n c1) 5 1 n ((List.take n (hkout key info k)).map b8)) rfl (by congr 1; simp [List.map_take]) ?_
 refine lS ?_
 refine lS ?_
 refine L_nil ?_
 refine T_ret ?_
 refine T_as 0 _ (.row (.slice A1 n c1) 5 1 n ((hkdf key info n).map b8)) rfl (by rw [hkdf_of key info n k oM oM]) ?_
 exact T_fin (A1, c1) qN (res2 rfl rfl rfl) [0] ⟨by decide, rfl⟩ rfl
set_option maxHeartbeats 4000000 in
theorem expand_f (key : List (BitVec 8)) (info : List (BitVec 8)) (A : Option Addr) (ni : Nat) (c : Nat) (n : Nat) (w : World) (hO : HOK [.rd A 1 ni c (info.map b8)] w) (hkl : key.length = 32) (hi : info.length = ni) (hni : ni ≤ 100000000) (h1 : 1 ≤ n) (h2 : n ≤ 8160) : Calls Tryz.prog 71 [(.agg (key.map b8).toArray), (.slice A ni c), (.int .i64 ((n : Nat) : Int))].toArray w (Ret (T := Option Addr) [] w (fun B => True) (fun B => (.tuple [(.slice B n n), (.int .i64 ((0 : Nat) : Int))].toArray)) (fun B => [.old B 1 n n ((hkdf key info n).map b8)])) := by
 have hF : Wid Fence.wide := wid_wide
 refine enter_m (c := _) Tryz.func71 rfl [] _ [.rd A 1 ni c (info.map b8)] (by rw [Tryz.ntmps71]; rfl) (own_rds hO rfl) ?_
 rw [Tryz.ntmps71]
 refine lE [(0, (.agg (key.map b8).toArray)), (1, (.slice A ni c)), (2, (.int .i64 ((n : Nat) : Int)))] ?_
 refine lH [0] [.rd A 1 ni c (info.map b8)] ?_
 refine lT ?_
 refine L_op rfl (op_box (zs := (key.map b8)) rfl rfl rfl rfl rfl (fun g1 => ?_))
 refine L_op rfl (op_box (zs := [(.int .i64 ((n : Nat) : Int))]) rfl rfl rfl rfl rfl (fun g2 => ?_))
 refine lS ?_
 refine lS ?_
 refine L_nil ?_
 refine T_seq ?_
 refine lT ?_
 refine lQ (ld_blk 0 rfl rfl Tryz.underlying3 rfl rfl rfl) ?_
 refine lO (pr_cmp (bo := .lss) (nc_lt (a := n) (b := 1)) rfl rfl rfl rfl) ?_
 refine lM ?_
 refine T_slot 12 (.bool (decide (n < 1))) (.bool false) rfl (congrArg _ (by simp; omega)) ?_
 refine lQ (ld_blk 0 rfl rfl Tryz.underlying3 rfl rfl rfl) ?_
 refine lO (pr_cmp (bo := .gtr) (nc_lt (a := 8160) (b := n)) rfl rfl rfl rfl) ?_
 refine lO (pr_pick_f rfl rfl rfl) ?_
 refine L_nil ?_
 refine T_cond_no (t := decide (8160 < n)) rfl (by simp; omega) ?_
 refine T_skip ?_
 refine lT ?_
 refine L_op rfl (op_alloc (z := (.slice none 0 0)) (zs := [(.slice none 0 0)]) kr rfl rfl rfl rfl (fun g4 => ?_))
 refine L_nil ?_
 refine T_seq ?_
 refine lT ?_
 refine lQ (ld_agg (ds := (key.map b8)) 2 rfl agg_all Tryz.underlying22 rfl (fwz (n := 32) kr sd) rfl rfl) ?_
 refine lM ?_
 refine L_op rfl (op_cn (fun w hw => pieces_f key A ni c w (hok_nil w) sd) (enters_of Tryz.func90 kr rfl) rfl rfl rfl rfl rfl (fun t5 q6 => ?_))
 obtain ⟨g1_7, g2_8⟩ := t5
 refine L_nil ?_
 refine T_block ?_
 refine T_tord 0 rfl ?_
 refine T_tord 1 rfl ?_
 refine T_nilrow 5 1 ?_
 refine T_as 0 _ (.row (.slice none 0 0) 5 1 0 ((hkout key info 0).map b8)) rfl (by rw [hkout_zero]; rfl) ?_
 refine T_as 0 _ (.row (.slice none (32 * 0) 0) 5 1 (32 * 0) ((hkout key info 0).map b8)) rfl (by rfl) ?_
 refine T_as 3 _ (.blk g4 27 [(.slice none (32 * 0) 0)]) rfl (by rfl) ?_
 refine T_range (Θ := Option Addr) (T := Option Addr × Nat) (Tx := Nat × Option Addr × Nat) (cap := [(.pointer (some ⟨g1_7, 0, none⟩)), (.pointer (some ⟨g2_8, 0, none⟩))]) (ps := [19]) (pieces_seq key info A ni c g1_7 g2_8 sd sd sd) rfl (enters_of Tryz.func98 kr rfl) (fun k ⟨A1, c1⟩ => 32 * k < n) (fun k ⟨A1, c1⟩ => [.row (.slice A1 (32 * k) c1) 5 1 (32 * k) ((hkout key info k).map b8), .rd (some ⟨g2_8, 0, none⟩) 1 1 1 [(.slice A ni c)], .rd (some ⟨g1_7, 0, none⟩) 1 32 32 (key.map b8), .blk g4 27 [(.slice A1 (32 * k) c1)], .blk g2 3 [(.int .i64 ((n : Nat) : Int))], .blk g1 22 (key.map b8), .rd A 1 ni c (info.map b8)]) (fun ⟨kb, A1, c1⟩ => n ≤ 32 * kb ∧ kb ≤ 255) (fun ⟨kb, A1, c1⟩ => [.row (.slice A1 (32 * kb) c1) 5 1 (32 * kb) ((hkout key info kb).map b8), .rd (some ⟨g2_8, 0, none⟩) 1 1 1 [(.slice A ni c)], .rd (some ⟨g1_7, 0, none⟩) 1 32 32 (key.map b8), .blk g4 27 [(.slice A1 (32 * kb) c1)], .blk g2 3 [(.int .i64 ((n : Nat) : Int))], .blk g1 22 (key.map b8), .rd A 1 ni c (info.map b8)]) 0 (none, 0) oM [1, 2, 3, 0, 4, 5, 6] ⟨by decide, rfl⟩ [3, 2, 6] rfl rfl (fun _ _ => rfl) (fun _ => rfl) (fun _ _ => rfl) (fun _ _ => rfl) rfl (fun _ => trivial) ?_ ?_ ?_
 ·intro C2 w2 lo2 rs2 l D m k t th rc hrec hk hp
  obtain ⟨A1, c1⟩ := t
  obtain ⟨B, rfl⟩ : ∃ x, x = th := ⟨_, rfl⟩
  have hp : 32 * k < n := hp
  have hk : k < 255 := hk
  have hol := hkout_len key info k
  have hpl := hkpc_len key info k
  have hF : Wid (Fence.wide.inRound l) := wid_round l
  refine lE [(5, (.pointer (some ⟨g2, 0, none⟩))), (8, (.pointer (some ⟨g4, 0, none⟩))), (19, (.slice B 32 32))] ?_
  refine lH [0, 1, 2, 3, 4, 5, 6, 7, 8, 9] [.rd B 1 32 32 ((hkpc key info (k + 1)).map b8), .obj l (.loop rc), .obj D (.deferred (some [])), .row (.slice A1 (32 * k) c1) 5 1 (32 * k) ((hkout key info k).map b8), .rd (some ⟨g2_8, 0, none⟩) 1 1 1 [(.slice A ni c)], .rd (some ⟨g1_7, 0, none⟩) 1 32 32 (key.map b8), .blk g4 27 [(.slice A1 (32 * k) c1)], .blk g2 3 [(.int .i64 ((n : Nat) : Int))], .blk g1 22 (key.map b8), .rd A 1 ni c (info.map b8)] ?_
  refine lR ?_
  refine lS ?_
  refine L_nil ?_
  refine T_begun 1 rfl hrec ?_
  refine T_block ?_
  refine lT ?_
  refine lQ (ld_blk 6 rfl rfl Tryz.underlying27 rfl rfl rfl) ?_
  refine lM ?_
  refine L_op rfl (op_append (z := (b8 (0#8))) (size := 1) (bytes := 1) 3 rfl Tryz.underlying27 kr kr (by decide) (src_rd 1 rfl) (all8_one _) sd sd rfl rfl rfl rfl rfl (fun A9 C10 => ?_))
  refine T_as 0 _ (.row (.slice A9 (32 * k + 32) C10) 5 1 (32 * k + 32) (((hkout key info k) ++ (hkpc key info (k + 1))).map b8)) rfl (by congr 1; simp; done) ?_
  refine L_op rfl (op_store (vs := [(.slice A9 (32 * k + 32) C10)]) (cs' := [(.slice A9 (32 * k + 32) C10)]) 6 rfl rfl kr (one_one rfl) (by simp) rfl rfl rfl rfl rfl ?_)
  refine lN ?_
  refine lQ (ld_blk 0 rfl rfl Tryz.underlying27 rfl rfl rfl) ?_
  refine lO (pr_len_sl Tryz.underlying27 rfl rfl) ?_
  refine lQ (ld_blk 7 rfl rfl Tryz.underlying3 rfl rfl rfl) ?_
  refine lO (pr_cmp (bo := .geq) (nc_le (a := n) (b := 32 * k + 32)) rfl rfl rfl rfl) ?_
  refine L_nil ?_
  refine T_cond (decide (n ≤ 32 * k + 32)) rfl (fun hc_11 => ?_) (fun hc_11 => ?_)
  ·have hc_11 := of_decide_eq_true hc_11
   refine T_exit rfl ?_
   refine T_as 1 _ (.row (.slice A9 (32 * (k + 1)) C10) 5 1 (32 * (k + 1)) ((hkout key info (k + 1)).map b8)) rfl (by rw [hkout_succ]; congr 1) ?_
   refine T_as 1 _ (.blk g4 27 [(.slice A9 (32 * (k + 1)) C10)]) rfl (by congr 1) ?_
   exact T_on (k + 1, A9, C10) (by dsimp only; omega) [2, 4, 1, 5, 6, 0, 7, 8, 9] ⟨by decide, rfl⟩
  have hc_11 := of_decide_eq_false hc_11
  refine T_skip ?_
  refine T_as 1 _ (.row (.slice A9 (32 * (k + 1)) C10) 5 1 (32 * (k + 1)) ((hkout key info (k + 1)).map b8)) rfl (by rw [hkout_succ]; congr 1) ?_
  refine T_as 1 _ (.blk g4 27 [(.slice A9 (32 * (k + 1)) C10)]) rfl (by congr 1) ?_
  exact T_on (A9, C10) oM [2, 4, 1, 5, 6, 0, 7, 8, 9] ⟨by decide, rfl⟩
 ·intro D t hp
  obtain ⟨A1, c1⟩ := t
  have hp : 32 * 255 < n := hp
  refine lE [(5, (.pointer (some ⟨g2, 0, none⟩))), (8, (.pointer (some ⟨g4, 0, none⟩)))] ?_
  refine lH [0, 1, 2, 3, 4, 5, 6, 7] [.obj D (.deferred (some [])), .row (.slice A1 (32 * 255) c1) 5 1 (32 * 255) ((hkout key info 255).map b8), .rd (some ⟨g2_8, 0, none⟩) 1 1 1 [(.slice A ni c)], .rd (some ⟨g1_7, 0, none⟩) 1 32 32 (key.map b8), .blk g4 27 [(.slice A1 (32 * 255) c1)], .blk g2 3 [(.int .i64 ((n : Nat) : Int))], .blk g1 22 (key.map b8), .rd A 1 ni c (info.map b8)] ?_
  exfalso; omega
 intro D t hq
 obtain ⟨kb, A1, c1⟩ := t
 have hq : n ≤ 32 * kb ∧ kb ≤ 255 := hq
 refine T_exit rfl ?_
 refine lE [(5, (.pointer (some ⟨g2, 0, none⟩))), (8, (.pointer (some ⟨g4, 0, none⟩)))] ?_
 refine lH [0, 1, 2, 3, 4, 5, 6, 7] [.obj D (.deferred (some [])), .row (.slice A1 (32 * kb) c1) 5 1 (32 * kb) ((hkout key info kb).map b8), .rd (some ⟨g2_8, 0, none⟩) 1 1 1 [(.slice A ni c)], .rd (some ⟨g1_7, 0, none⟩) 1 32 32 (key.map b8), .blk g4 27 [(.slice A1 (32 * kb) c1)], .blk g2 3 [(.int .i64 ((n : Nat) : Int))], .blk g1 22 (key.map b8), .rd A 1 ni c (info.map b8)] ?_
 refine lT ?_
 refine lQ (ld_blk 4 rfl rfl Tryz.underlying27 rfl rfl rfl) ?_
 refine lQ (ld_blk 5 rfl rfl Tryz.underlying3 rfl rfl rfl) ?_
 refine lQ (ld_blk 5 rfl rfl Tryz.underlying3 rfl rfl rfl) ?_
 refine T_old 1 rfl ?_
 refine T_know (p := 32 * kb ≤ c1) (fun w hw => (hw (.old A1 1 (32 * kb) c1 ((hkout key info kb).map b8)) (List.mem_of_getElem? (i := 0) rfl)).1.le) (fun hcap_12 => ?_)
 refine L_op rfl (op_pr (pr_slup3 (u := n) sd Tryz.underlying27 (z := 1) kr rfl rfl rfl rfl) rfl rfl ?_)
 refine T_prec 0 n n (((List.take n (hkout key info kb)).map b8)) rfl sd (Nat.le_refl _) sd sd (by rw [Nat.mul_one, List.map_take]) ?_
 refine lS ?_
 refine lS ?_
 refine L_nil ?_
 refine T_ret ?_
 refine T_as 0 _ (.old A1 1 n n ((hkdf key info n).map b8)) rfl (by rw [hkdf_of key info n kb oM oM]) ?_
 exact T_finM 2 rfl A1 qN (res2 rfl rfl rfl) [0] ⟨by decide, rfl⟩ rfl
set_option maxHeartbeats 4000000 in
theorem key_f (salt : List (BitVec 8)) (A : Option Addr) (n : Nat) (c : Nat) (key : List (BitVec 8)) (B : Option Addr) (nt : Nat) (d : Nat) (info : List (BitVec 8)) (E : Option Addr) (ni : Nat) (ce : Nat) (w : World) (hO : HOK [.rd A 1 n c (salt.map b8), .rd B 1 nt d (key.map b8), .rd E 1 ni ce (info.map b8)] w) (hx : salt.length = n) (hn : n ≤ 900000000) (ht : key.length = nt) (hnt : nt ≤ 900000000) (hi : info.length = ni) (hni : ni ≤ 100000000) : Calls Tryz.prog 52 [(.slice A n c), (.slice B nt d), (.slice E ni ce)].toArray w (Ret (T := Unit) [] w (fun _ => True) (fun _ => (.agg ((hkdf (mactag salt key) info 32).map b8).toArray)) (fun _ => [])) := by
 have hml := mactag_len salt key
 have hkl2 := hkdf_len (mactag salt key) info 32 oM
 refine enter (c := _) Tryz.func52 rfl [] _ [.rd A 1 n c (salt.map b8), .rd B 1 nt d (key.map b8), .rd E 1 ni ce (info.map b8)] (by rw [Tryz.ntmps52]; rfl) (own_rds hO rfl) ?_
 rw [Tryz.ntmps52]
 refine lE [(0, (.slice A n c)), (1, (.slice B nt d)), (2, (.slice E ni ce))] ?_
 refine lH [0, 1, 2] [.rd A 1 n c (salt.map b8), .rd B 1 nt d (key.map b8), .rd E 1 ni ce (info.map b8)] ?_
 refine lT ?_
 refine L_op rfl (op_alloc (z := .agg ((List.replicate 32 0#8).map b8).toArray) (zs := ((List.replicate 32 0#8).map b8)) kr rfl rfl rfl rfl (fun g1 => ?_))
 refine lN ?_
 refine lM ?_
 refine lM ?_
 refine L_op rfl (op_cn (fun w hw => extract_f salt A n c key B nt d w (hok_cons ((src_rd 1 rfl) w hw) (hok_cons ((src_rd 2 rfl) w hw) (hok_nil w))) aS sd aS sd) (enters_of Tryz.func72 kr rfl) rfl rfl rfl rfl rfl (fun t2 q3 => ?_))
 refine lM ?_
 refine L_op rfl (op_cn (fun w hw => expand_f (mactag salt key) info E ni ce 32 w (hok_cons ((src_rd 3 rfl) w hw) (hok_nil w)) aS aS sd sd sd) (enters_of Tryz.func71 kr rfl) rfl rfl rfl rfl rfl (fun t4 q5 => ?_))
 obtain ⟨B6, eB6⟩ : ∃ x, x = t4 := ⟨_, rfl⟩
 subst eB6
 refine lM ?_
 refine lO (pr_ext (vs := [(.slice B6 32 32), (.int .i64 ((0 : Nat) : Int))]) rfl rfl rfl) ?_
 refine lO (pr_ext (vs := [(.slice B6 32 32), (.int .i64 ((0 : Nat) : Int))]) rfl rfl rfl) ?_
 refine lS ?_
 refine lS ?_
 refine lN ?_
 refine lM ?_
 refine lO (pr_s2a sd Tryz.underlying22 rfl rfl) ?_
 refine lQ (ld_aggs (ds := ((hkdf (mactag salt key) info 32).map b8)) (src_old 0 rfl) (List.take_length) (by have h1 : (((hkdf (mactag salt key) info 32).map b8)).length = 32 := sd; omega) Tryz.underlying22 rfl (fwz (n := 32) kr sd) rfl rfl) ?_
 refine L_op rfl (op_sto (n := 32) (vs := ((hkdf (mactag salt key) info 32).map b8)) 1 rfl rfl kr (all8_one _) kr sd rfl rfl rfl rfl ?_)
 refine L_nil ?_
 refine T_ret ?_
 exact T_fin () qN (resb 0 rfl rfl rfl Tryz.underlying22 rfl (fwz (n := 32) kr sd)) [] ⟨by decide, rfl⟩ rfl
set_option maxHeartbeats 4000000 in
theorem rkey_f (salt : List (BitVec 8)) (A : Option Addr) (n : Nat) (c : Nat) (key : List (BitVec 8)) (B : Option Addr) (nt : Nat) (d : Nat) (info : List (BitVec 8)) (E : Option Addr) (ni : Nat) (ce : Nat) (w : World) (hO : HOK [.rd A 1 n c (salt.map b8), .rd B 1 nt d (key.map b8), .rd E 1 ni ce (info.map b8)] w) (hx : salt.length = n) (hn : n ≤ 900000000) (ht : key.length = nt) (hnt : nt ≤ 900000000) (hi : info.length = ni) (hni : ni ≤ 100000000) : Calls Tryz.prog 42 [(.slice A n c), (.slice B nt d), (.slice E ni ce)].toArray w (Ret (T := Unit) [] w (fun _ => True) (fun _ => (.agg ((hkdf (mactag salt key) info 32).map b8).toArray)) (fun _ => [])) := by
 have hml := mactag_len salt key
 have hkl2 := hkdf_len (mactag salt key) info 32 oM
 refine enter (c := _) Tryz.func42 rfl [] _ [.rd A 1 n c (salt.map b8), .rd B 1 nt d (key.map b8), .rd E 1 ni ce (info.map b8)] (by rw [Tryz.ntmps42]; rfl) (own_rds hO rfl) ?_
 rw [Tryz.ntmps42]
 refine lE [(0, (.slice A n c)), (1, (.slice B nt d)), (2, (.slice E ni ce))] ?_
 refine lH [0, 1, 2] [.rd A 1 n c (salt.map b8), .rd B 1 nt d (key.map b8), .rd E 1 ni ce (info.map b8)] ?_
 refine lT ?_
 refine L_op rfl (op_alloc (z := .agg ((List.replicate 32 0#8).map b8).toArray) (zs := ((List.replicate 32 0#8).map b8)) kr rfl rfl rfl rfl (fun g1 => ?_))
 refine lN ?_
 refine lM ?_
 refine lM ?_
 refine L_op rfl (op_cn (fun w hw => rextract_f salt A n c key B nt d w (hok_cons ((src_rd 1 rfl) w hw) (hok_cons ((src_rd 2 rfl) w hw) (hok_nil w))) aS sd aS sd) (enters_of Tryz.func64 kr rfl) rfl rfl rfl rfl rfl (fun t2 q3 => ?_))
 refine lM ?_
 refine L_op rfl (op_cn (fun w hw => rexpand_f (mactag salt key) info E ni ce 32 w (hok_cons ((src_rd 3 rfl) w hw) (hok_nil w)) aS aS sd sd sd) (enters_of Tryz.func63 kr rfl) rfl rfl rfl rfl rfl (fun t4 q5 => ?_))
 obtain ⟨B6, d7⟩ := t4
 refine lM ?_
 refine lO (pr_ext (vs := [(.slice B6 32 d7), (.int .i64 ((0 : Nat) : Int))]) rfl rfl rfl) ?_
 refine lO (pr_ext (vs := [(.slice B6 32 d7), (.int .i64 ((0 : Nat) : Int))]) rfl rfl rfl) ?_
 refine lS ?_
 refine lS ?_
 refine lN ?_
 refine L_op rfl (op_alloc (z := .agg ((List.replicate 32 0#8).map b8).toArray) (zs := ((List.replicate 32 0#8).map b8)) kr rfl rfl rfl rfl (fun g8 => ?_))
 refine L_nil ?_
 refine T_seq ?_
 refine lT ?_
 refine lS ?_
 refine L_nil ?_
 refine T_block ?_
 refine T_as 0 _ (.blk g8 22 ((pre0 (hkdf (mactag salt key) info 32) 32 0).map b8)) rfl (by rw [← pre0_zero]) ?_
 refine T_loop (T := Nat) (fun j => j ≤ 32) (fun j => [(6, (.pointer (some ⟨g1, 0, none⟩))), (7, (.slice B6 32 d7)), (9, (.pointer (some ⟨g8, 0, none⟩))), (10, (.int .i64 ((j : Nat) : Int)))]) (fun j => [.blk g8 22 ((pre0 (hkdf (mactag salt key) info 32) 32 j).map b8), .row (.slice B6 32 d7) 5 1 32 ((hkdf (mactag salt key) info 32).map b8), .blk g1 22 ((List.replicate 32 0#8).map b8), .rd A 1 n c (salt.map b8), .rd B 1 nt d (key.map b8), .rd E 1 ni ce (info.map b8)]) (fun j => 32 - j) 0 pN (sc rfl (sc rfl (sc rfl (sc rfl sn)))) [0, 1, 2, 3, 4, 5] ⟨by decide, rfl⟩ ?_
 rintro j hp
 have hp : j ≤ 32 := hp
 have hpj := pre0_len (hkdf (mactag salt key) info 32) 32 j hkl2 hp
 refine lE [(6, (.pointer (some ⟨g1, 0, none⟩))), (7, (.slice B6 32 d7)), (9, (.pointer (some ⟨g8, 0, none⟩))), (10, (.int .i64 ((j : Nat) : Int)))] ?_
 refine lH [0, 1, 2, 3, 4, 5] [.blk g8 22 ((pre0 (hkdf (mactag salt key) info 32) 32 j).map b8), .row (.slice B6 32 d7) 5 1 32 ((hkdf (mactag salt key) info 32).map b8), .blk g1 22 ((List.replicate 32 0#8).map b8), .rd A 1 n c (salt.map b8), .rd B 1 nt d (key.map b8), .rd E 1 ni ce (info.map b8)] ?_
 refine T_seq ?_
 refine lT ?_
 refine lM ?_
 refine lO (pr_cmp (bo := .lss) (nc_lt (a := j) (b := 32)) rfl rfl rfl rfl) ?_
 refine L_nil ?_
 refine T_cond (decide (j < 32)) rfl (fun hc_9 => ?_) (fun hc_9 => ?_)
 ·have hc_9 := of_decide_eq_true hc_9
  refine T_skip ?_
  refine T_seq ?_
  refine T_block ?_
  refine lR ?_
  refine lM ?_
  refine lM ?_
  refine lM ?_
  refine lO (pr_ixs1 (j := j) (src_none (src_row 1 rfl)) sd Tryz.underlying27 kr rfl rfl rfl) ?_
  refine lQ (ld_src (m := j) (src_row 1 rfl) (get8 sd) Tryz.underlying5 rfl rfl rfl) ?_
  refine lO (pr_ixa (j := j) (m' := j) sd oM Tryz.underlying22 (z := 1) kr rfl rfl rfl) ?_
  refine L_op rfl (op_store (vs := [(b8 (ath (hkdf (mactag salt key) info 32) j))]) (cs' := ((List.set (pre0 (hkdf (mactag salt key) info 32) 32 j) j (ath (hkdf (mactag salt key) info 32) j)).map b8)) 0 rfl rfl kr (one_one rfl) (stl sd) (splice_map (f := b8) sd) rfl rfl rfl rfl ?_)
  refine L_nil ?_
  refine lR ?_
  refine lM ?_
  refine lO (pr_add (na_i64 (a := j) (b := 1) sd) rfl rfl rfl) ?_
  refine lS ?_
  refine L_nil ?_
  refine T_as 0 _ (.blk g8 22 ((pre0 (hkdf (mactag salt key) info 32) 32 (j + 1)).map b8)) rfl (by rw [pre0_set _ _ j hkl2 oM _ rfl]) ?_
  exact T_again (j + 1) pN pN (sc rfl (sc rfl (sc rfl (sc rfl sn)))) [0, 1, 2, 3, 4, 5] ⟨by decide, rfl⟩
 have hc_9 := of_decide_eq_false hc_9
 refine T_exit rfl ?_
 obtain rfl : 32 = j := by omega
 refine lT ?_
 refine lQ (ld_agg (ds := ((pre0 (hkdf (mactag salt key) info 32) 32 32).map b8)) 0 rfl agg_all Tryz.underlying22 rfl (fwz (n := 32) kr sd) rfl rfl) ?_
 refine L_op rfl (op_sto (n := 32) (vs := ((pre0 (hkdf (mactag salt key) info 32) 32 32).map b8)) 2 rfl rfl kr (all8_one _) kr sd rfl rfl rfl rfl ?_)
 refine L_nil ?_
 refine T_ret ?_
 refine T_as 0 _ (.blk g1 22 ((hkdf (mactag salt key) info 32).map b8)) rfl (by rw [pre0_all _ _ hkl2]) ?_
 exact T_fin () qN (resb 0 rfl rfl rfl Tryz.underlying22 rfl (fwz (n := 32) kr sd)) [] ⟨by decide, rfl⟩ rfl
end Go.Proofs.YtlplpmkdebemnaaGreat
namespace Go.Proofs.YtlplpmkdebemnaaGreat
set_option maxRecDepth 100000
open Go.RowKit Bv Fw
def eib (xs : List (BitVec 64)) : Nat → List (BitVec 8)
  | 0 => []
  | k + 1 => eib xs k ++ lowb (ath xs k) 8
theorem eib_zero (xs : List (BitVec 64)) : eib xs 0 = [] := rfl
theorem eib_succ (xs : List (BitVec 64)) (k : Nat) : eib xs (k + 1) = eib xs k ++ lowb (ath xs k) 8 := rfl
theorem eib_len (xs : List (BitVec 64)) : ∀ k, (eib xs k).length = 8 * k
  | 0 => rfl
  | k + 1 => by rw [eib, List.length_append, eib_len xs k, lowb_len]; omega
theorem eib_one (v : BitVec 64) : eib [v] 1 = lowb v 8 := rfl
attribute [irreducible] eib
set_option maxHeartbeats 4000000 in
theorem eights_f (xs : List (BitVec 64)) (A : Option Addr) (n : Nat) (c : Nat) (w : World) (hO : HOK [.rd A 1 n c (xs.map b64)] w) (hx : xs.length = n) (hn : n ≤ 100000) : Calls Tryz.prog 53 [(.slice A n c)].toArray w (Ret (T := Option Addr × Nat) [] w (fun ⟨B, d⟩ => True) (fun ⟨B, d⟩ => (.slice B (8 * n) d)) (fun ⟨B, d⟩ => [.row (.slice B (8 * n) d) 5 1 (8 * n) ((eib xs n).map b8)])) := by
 refine enter (c := _) Tryz.func53 rfl [] _ [.rd A 1 n c (xs.map b64)] (by rw [Tryz.ntmps53]; rfl) (own_rds hO rfl) ?_
 rw [Tryz.ntmps53]
 refine lE [(0, (.slice A n c))] ?_
 refine lH [0] [.rd A 1 n c (xs.map b64)] ?_
 refine lT ?_
 refine lS ?_
 refine lN ?_
 refine lM ?_
 refine lO (pr_len_sl Tryz.underlying77 rfl rfl) ?_
 refine lO (pr_mul (nm_i64 (a := 8) (b := n) sd) rfl rfl rfl) ?_
 refine L_op rfl (op_make (z := (b8 (0#8))) (n := 0) (c := 8 * n) Tryz.underlying27 (bytes := 1) kr rfl sd sd sd rfl rfl rfl rfl rfl (fun g1 => ?_))
 refine T_as 0 _ (.blk g1 5 ((List.replicate (8 * n) 0#8).map b8)) rfl (by rw [List.map_replicate]) ?_
 refine lS ?_
 refine L_nil ?_
 refine T_seq ?_
 refine lT ?_
 refine lM ?_
 refine lO (pr_len_sl Tryz.underlying77 rfl rfl) ?_
 refine lM ?_
 refine L_nil ?_
 refine T_block ?_
 refine T_slot 3 (.slice (some ⟨g1, 0, none⟩) 0 (8 * n)) (.slice (some ⟨g1, 0, none⟩) (8 * 0) (8 * n)) rfl (by rfl) ?_
 refine T_rowb 0 (zs := ((eib xs 0).map b8)) 1 (8 * 0) (8 * n) rfl sd sd sd (by rw [eib_zero]; rfl) ?_
 refine T_loop (T := Nat × Option Addr × Nat) (fun ⟨k, A1, c1⟩ => k ≤ n) (fun ⟨k, A1, c1⟩ => [(3, (.slice A1 (8 * k) c1)), (10, (.slice A n c)), (11, (.int .i64 ((n : Nat) : Int))), (12, (.int .i64 ((k : Nat) : Int)))]) (fun ⟨k, A1, c1⟩ => [.row (.slice A1 (8 * k) c1) 5 1 (8 * k) ((eib xs k).map b8), .rd A 1 n c (xs.map b64)]) (fun ⟨k, A1, c1⟩ => n - k) (0, some ⟨g1, 0, none⟩, 8 * n) pN (sc rfl (sc rfl (sc rfl (sc rfl sn)))) [0, 1] ⟨by decide, rfl⟩ ?_
 rintro ⟨k, A1, c1⟩ hp
 have hp : k ≤ n := hp
 refine lE [(3, (.slice A1 (8 * k) c1)), (10, (.slice A n c)), (11, (.int .i64 ((n : Nat) : Int))), (12, (.int .i64 ((k : Nat) : Int)))] ?_
 refine lH [0, 1] [.row (.slice A1 (8 * k) c1) 5 1 (8 * k) ((eib xs k).map b8), .rd A 1 n c (xs.map b64)] ?_
 refine lT ?_
 refine lO (pr_cmp (bo := .lss) (nc_lt (a := k) (b := n)) rfl rfl rfl rfl) ?_
 refine L_nil ?_
 refine T_seq ?_
 refine T_cond (decide (k < n)) rfl (fun hc_2 => ?_) (fun hc_2 => ?_)
 ·have hc_2 := of_decide_eq_true hc_2
  refine T_skip ?_
  refine T_seq ?_
  refine T_block ?_
  refine lT ?_
  refine lO (pr_ixs1 (j := k) (src_none (src_rd 1 rfl)) sd Tryz.underlying77 kr rfl rfl rfl) ?_
  refine lQ (ld_src (m := k) (src_rd 1 rfl) (get64 sd) Tryz.underlying23 rfl rfl rfl) ?_
  refine lS ?_
  refine L_nil ?_
  refine lR ?_
  refine lM ?_
  refine lM ?_
  refine L_op rfl (op_c1 0 rfl (fun w hw => putLow_f (eib xs k) (ath xs k) 8 A1 (8 * k) c1 w (hw _ (List.mem_of_getElem? (i := 0) rfl)) sd sd) (enters_of Tryz.func51 kr rfl) rfl rfl rfl rfl rfl (fun t3 q4 => ?_))
  obtain ⟨B5, d6⟩ := t3
  refine lS ?_
  refine L_nil ?_
  refine lR ?_
  refine lO (pr_add (na_i64 (a := k) (b := 1) sd) rfl rfl rfl) ?_
  refine lM ?_
  refine L_nil ?_
  refine T_slot 3 (.slice B5 ((8 * k) + 8) d6) (.slice B5 (8 * (k + 1)) d6) rfl (by rfl) ?_
  refine T_as 0 _ (.row (.slice B5 (8 * (k + 1)) d6) 5 1 (8 * (k + 1)) ((eib xs (k + 1)).map b8)) rfl (by rw [eib_succ]; rfl) ?_
  exact T_again (k + 1, B5, d6) pN pN (sc rfl (sc rfl (sc rfl (sc rfl sn)))) [0, 1] ⟨by decide, rfl⟩
 have hc_2 := of_decide_eq_false hc_2
 refine T_exit rfl ?_
 obtain rfl : n = k := by omega
 refine lT ?_
 refine lM ?_
 refine lS ?_
 refine L_nil ?_
 refine T_ret ?_
 exact T_fin (A1, c1) qN (res1 rfl rfl) [0] ⟨by decide, rfl⟩ rfl
end Go.Proofs.YtlplpmkdebemnaaGreat
namespace Go.Proofs.YtlplpmkdebemnaaGreat.Fw
open Go.RowKit Bv
section
variable {P : Program} {X : Cx} {s : List (Nat × Value)} {h : List HA} {o : Oper} {K K0 J : Jd}
end
end Go.Proofs.YtlplpmkdebemnaaGreat.Fw
namespace Go.Proofs.YtlplpmkdebemnaaGreat.Fw
open Go.RowKit Bv
structure Txt (cur : List Value) (n c : Nat) (fr : Nat × Nat) (zs : List (BitVec 8)) : Prop where
  len : cur.length = c
  le : n ≤ c
  most : c ≤ maxLen
  take : cur.take n = zs.map b8
  mark : fr = (0, 0) ∨ c ≤ fr.1
section
variable {P : Program} {X : Cx} {s : List (Nat × Value)} {h : List HA} {o : Oper} {K K0 J : Jd}
theorem sob_size (xs : List (BitVec 8)) : (sob xs).size = xs.length := by simp [sob, ByteArray.size]
theorem op_s2b {d : Nat} {src t e : TypeId} {x : Operand} {xs : List (BitVec 8)} {u : TypeDesc} (hs : P.underlying src = some u) (ht : P.underlying t = some (.slice e)) (he : P.underlying e = some (.int .u8)) (hl : xs.length ≤ 1000000)
    (ho : o.op = .convert src t x) (hx : ev s x = some (.string (sob xs))) (hd : o.dst = some d) (hN : Nat.blt d X.N = true)
    (hh : ∀ g c cur fr, Txt cur xs.length c fr xs → Tr X ((d, .slice (some ⟨g, 0, none⟩) xs.length c) :: s) (.obj g (.cells cur.toArray e fr) :: h) K) : Tr X s h (Op P o K K0) := fun a w st => by
  have hr : (execOp a.eval o).run P w = .ok (.value (.slice (some ⟨w.heap.size, 0, none⟩) xs.length (grownCap w xs.length 0 e))) (Lib.bytesWorld w e (sob xs)) := by
    unfold execOp; rw [ho]
    simp only [st.ag _ _ hx]
    rw [Sem.run_bind, Lib.run_convert_string_bytes w src t e _ hs ht he, sob_size]; rfl
  have hge := grownCap_ge w xs.length 0 e
  have hle := grownCap_le_maxLen w xs.length 0 e (by unfold maxLen; omega)
  have hsz : (Lib.bytesCells w e (sob xs)).size = grownCap w xs.length 0 e := by
    unfold Lib.bytesCells
    rw [sob_size]; simp [sob]; omega
  have hT : Txt (Lib.bytesCells w e (sob xs)).toList xs.length (grownCap w xs.length 0 e) ((Lib.bytesCells w e (sob xs)).size, (Lib.bytesCells w e (sob xs)).size + 1) xs := by
    refine ⟨by simpa using hsz, hge, hle, ?_, .inr (by rw [hsz]; exact Nat.le_refl _)⟩
    unfold Lib.bytesCells
    rw [Array.toList_append, List.take_append_of_le_length (by simp [sob]), List.take_of_length_le (by simp [sob])]
    simp only [sob, Array.toList_map, List.toList_toArray, List.map_map]
    apply List.map_congr_left
    intro b hb
    rfl
  refine op_val hr ?_
  rw [hd]
  refine hh _ _ _ _ hT _ _ (st.swapv [] h [.obj w.heap.size (.cells (Lib.bytesCells w e (sob xs)).toList.toArray e ((Lib.bytesCells w e (sob xs)).size, (Lib.bytesCells w e (sob xs)).size + 1))] (List.Perm.refl _) hN _ ⟨⟨rfl, rfl, rfl, by rw [Lib.bytesWorld_size]; omega⟩, fun k hk _ => Lib.bytesWorld_at_old w e _ k hk⟩ ?_ ?_ ?_ ?_)
  · intro x hx; rw [List.mem_singleton] at hx; subst hx
    show (Lib.bytesWorld w e (sob xs)).heap[w.heap.size]? = _
    rw [Lib.bytesWorld_at_new]
  · intro x hx k hk; rw [List.mem_singleton] at hx; subst hx; simp [HA.frs] at hk; subst hk; exact .inr (Nat.le_refl _)
  · simp [HA.ids]
  · intro x hx r hr; rw [List.mem_singleton] at hx; subst hx; cases hr
theorem T_objold (i : Nat) {g n c : Nat} {e : TypeId} {cur : List Value} {fr : Nat × Nat} {zs : List (BitVec 8)} (hi : h[i]? = some (.obj g (.cells cur.toArray e fr))) (ht : Txt cur n c fr zs) (hz : zs.length = n) (hh : Tr X s (.old (some ⟨g, 0, none⟩) 1 n c (zs.map b8) :: h.eraseIdx i) J) : Tr X s h J := fun a w st => by
  have hx : w.heap[g]? = some (.cells cur.toArray e fr) := st.ok _ (List.mem_of_getElem? hi)
  have hlt := (Array.getElem?_eq_some_iff.1 hx).1
  have hok : (HA.old (some ⟨g, 0, none⟩) 1 n c (zs.map b8)).ok w := by
    refine ⟨⟨by simp [hz], ht.le, by have := ht.most; unfold maxLen at this; omega, (fun h => by cases h), fun ad ea j v hj => ?_⟩, fun ad ea _ => by cases ea; exact hlt⟩
    cases ea
    rw [← ht.take, List.getElem?_take] at hj
    split at hj
    · rw [Addr.add_lit]; simp only [World.cell?, hx]; simpa using hj
    · cases hj
  refine hh a w (st.swap [.obj g (.cells cur.toArray e fr)] (h.eraseIdx i) [_] (perm_erase h i _ hi) st.sz st.df st.sl (Keep.refl _ _) ?_ ?_ ?_ ?_)
  · intro x hx; rw [List.mem_singleton] at hx; subst hx; exact hok
  · intro x hx k hk; rw [List.mem_singleton] at hx; subst hx
    refine .inl ?_
    have : k = g := by
      obtain ⟨_, ad, e1, e2⟩ := mem_rid.1 hk
      cases e1; exact e2.symm
    simp [HA.ids, this]
  · simp [HA.ids]
  · intro x hx r hr; rw [List.mem_singleton] at hx; subst hx
    exact ⟨hr, fun y hy => by rw [List.mem_singleton] at hy; subst hy; simp [HA.ids]⟩
theorem txt_as {cur : List Value} {n n' c : Nat} {fr : Nat × Nat} {zs zs' : List (BitVec 8)} (h : Txt cur n c fr zs) (hn : n = n') (hz : zs = zs') : Txt cur n' c fr zs' := hn ▸ hz ▸ h
def sets : List Value → Nat → List Value → List Value
  | cur, _, [] => cur
  | cur, q, v :: r => sets (cur.set q v) (q + 1) r
theorem sets_len : ∀ (vs : List Value) (cur : List Value) (q : Nat), (sets cur q vs).length = cur.length
  | [], _, _ => rfl
  | v :: r, cur, q => by rw [sets, sets_len r]; simp
theorem sets_take : ∀ (vs : List Value) (cur : List Value) (q : Nat), q + vs.length ≤ cur.length → (sets cur q vs).take (q + vs.length) = cur.take q ++ vs
  | [], cur, q, _ => by simp [sets]
  | v :: r, cur, q, h => by
    rw [List.length_cons] at h
    have h2 := sets_take r (cur.set q v) (q + 1) (by simp; omega)
    rw [sets, List.length_cons, show q + (r.length + 1) = q + 1 + r.length by omega, h2, List.take_succ_eq_append_getElem (by simp; omega)]
    simp only [List.getElem_set_self, List.append_assoc, List.singleton_append]
    congr 1
    apply List.ext_getElem?
    intro k
    by_cases hk : k < q
    · rw [List.getElem?_take, List.getElem?_take, if_pos hk, if_pos hk, List.getElem?_set_ne oM]
    · rw [List.getElem?_take, List.getElem?_take, if_neg hk, if_neg hk]
theorem heap_setCells_self (g : Nat) : ∀ (vs : List Value) (q : Nat) (w : World) (cur : List Value) (e : TypeId) (fr : Nat × Nat), w.heap[g]? = some (.cells cur.toArray e fr) → (w.setCells g q vs).heap[g]? = some (.cells (sets cur q vs).toArray e fr)
  | [], _, _, _, _, _, h => h
  | v :: r, q, w, cur, e, fr, h => by
    refine heap_setCells_self g r (q + 1) _ (cur.set q v) e fr ?_
    simp only [World.setCell, Array.getElem?_modify, if_pos, h, Option.map_some, Option.isSome_none, Bool.false_eq_true, if_false]
    simp
theorem size_setCells' (b : Nat) : ∀ (vs : List Value) (q : Nat) (w : World), (w.setCells b q vs).heap.size = w.heap.size
  | [], _, _ => rfl
  | v :: r, q, w => by rw [World.setCells, size_setCells' b r]; simp [World.setCell]
theorem heap_setCells_else (g : Nat) : ∀ (vs : List Value) (q : Nat) (w : World) (k : Nat), k ≠ g → (w.setCells g q vs).heap[k]? = w.heap[k]?
  | [], _, _, _, _ => rfl
  | v :: r, q, w, k, h => by rw [World.setCells, heap_setCells_else g r (q + 1) _ k h]; exact Below.heap_setCell w ⟨g, q, none⟩ v k h
theorem same_setCells (g : Nat) : ∀ (vs : List Value) (q : Nat) (w : World), (w.setCells g q vs).os = w.os ∧ (w.setCells g q vs).tape = w.tape ∧ (w.setCells g q vs).output = w.output
  | [], _, _ => ⟨rfl, rfl, rfl⟩
  | v :: r, q, w => by rw [World.setCells]; exact same_setCells g r (q + 1) _
theorem Txt.zlen {cur : List Value} {n c : Nat} {fr : Nat × Nat} {zs : List (BitVec 8)} (h : Txt cur n c fr zs) : zs.length = n := by
  have := congrArg List.length h.take
  rw [List.length_take, h.len, List.length_map] at this
  have := h.le; omega
theorem op_app_obj {d : Nat} {t e : TypeId} {x y : Operand} {A : Option Addr} {g n m c c2 : Nat} {cur : List Value} {fr : Nat × Nat} {zs news : List (BitVec 8)} (i : Nat) (hi : h[i]? = some (.obj g (.cells cur.toArray e fr))) (hT : Txt cur n c fr zs) (ht : P.underlying t = some (.slice e)) (hin : (P.info? e).map (fun i => (i.zero, i.size, i.bytes)) = some (some (.int .u8 0), 1, 1))
    (hs : Src h A 1 m c2 (news.map b8)) (hb : n + m ≤ 100000000000000)
    (ho : o.op = .call { callee := .builtin .append, args := #[x, y], argTypes := #[t, t] }) (hx : ev s x = some (.slice (some ⟨g, 0, none⟩) n c)) (hy : ev s y = some (.slice A m c2)) (hd : o.dst = some d) (hN : Nat.blt d X.N = true)
    (hh : ∀ g' c' cur' fr', Txt cur' (n + m) c' fr' (zs ++ news) → Tr X ((d, .slice (some ⟨g', 0, none⟩) (n + m) c') :: s) (.obj g' (.cells cur'.toArray e fr') :: h.eraseIdx i) K) : Tr X s h (Op P o K K0) := fun a w st => by
  have hg : w.heap[g]? = some (.cells cur.toArray e fr) := st.ok _ (List.mem_of_getElem? hi)
  have hrd := (hs w st.ok).1
  have hnl : (news.map b8).length = m := by have := hrd.len; simpa using this
  have hnl2 : news.length = m := by simpa using hnl
  have hzl := hT.zlen
  have hle := hT.le
  have hcl := hT.len
  obtain ⟨ti, hi1, hi2⟩ := Option.map_eq_some_iff.1 hin
  simp only [Prod.mk.injEq] at hi2
  obtain ⟨hz, hsize, hby⟩ := hi2
  have done : ∀ (g' c' : Nat) (cur' : List Value) (fr' : Nat × Nat) (w' : World), Txt cur' (n + m) c' fr' (zs ++ news) → w'.heap[g']? = some (.cells cur'.toArray e fr') → (g' = g ∨ w.heap.size ≤ g') → Keep [g] w w' → K (a.put o.dst (.slice (some ⟨g', 0, none⟩) (n + m) c')) w' := by
    intro g' c' cur' fr' w' hT' hg' hor hk
    rw [hd]
    refine hh g' c' cur' fr' hT' _ _ (st.swapv [.obj g (.cells cur.toArray e fr)] (h.eraseIdx i) [.obj g' (.cells cur'.toArray e fr')] (perm_erase h i _ hi) hN _ (by simpa [HA.ids] using hk) ?_ ?_ ?_ ?_)
    · intro x hx; rw [List.mem_singleton] at hx; subst hx; exact hg'
    · intro x hx k hk; rw [List.mem_singleton] at hx; subst hx
      have : k = g' := by simpa [HA.frs] using hk
      subst this
      rcases hor with rfl | h1
      · exact .inl (by simp [HA.ids])
      · exact .inr h1
    · simp [HA.ids]
    · intro x hx r hr; rw [List.mem_singleton] at hx; subst hx; cases hr
  cases A with
  | none =>
    have h0 := hrd.isn rfl; have h2 := hrd.le
    obtain rfl : m = 0 := by omega
    obtain rfl : c2 = 0 := h0
    obtain rfl : news = [] := List.eq_nil_of_length_eq_zero hnl2
    have hr : (execOp a.eval o).run P w = .ok (.value (.slice (some ⟨g, 0, none⟩) (n + 0) c)) w := by
      unfold execOp
      rw [ho]
      simp [resolve, invoke, builtin, st.ag _ _ hx, st.ag _ _ hy, Builtin.append_, run_underlying ht, sizeOf, typeInfo, hi1, Builtin.lenOf, Builtin.firstCells, hle, hsize, storeCells]
    exact op_val hr (done g c cur fr w (by simpa using hT) hg (.inl rfl) (Keep.refl _ _))
  | some ad =>
  by_cases hroom : n + m ≤ c
  · have hcell : ∀ j, j < (news.map b8).length → (w.cell? ⟨g, 0 + n * ti.size + j, none⟩).isSome = true := by
      intro j hj
      simp only [World.cell?, hg, Option.isSome_none, Bool.false_eq_true, if_false, hsize]
      rw [List.getElem?_toArray, List.getElem?_eq_getElem oM]; rfl
    have hfz : ∀ j, j < (news.map b8).length → w.frozen? ⟨g, 0 + n * ti.size + j, none⟩ = false := by
      intro j hj
      obtain ⟨lo, hi'⟩ := fr
      simp only [World.frozen?, hg, hsize]
      rcases hT.mark with q | q
      · cases q; simp
      · have : ¬ lo ≤ n + j := by simp only at q; omega
        simp [this]
    have h9 := run_append_room_cells (P := P) w t o.type e ti ht hi1 g 0 n c ad m c2 (news.map b8) (by rw [hsize, hnl, Nat.mul_one]) (fun j u hu => hrd.cells ad rfl j u hu) (all8_one news) hroom hcell hfz
    rw [hsize, Nat.zero_add, Nat.mul_one] at h9
    have hr : (execOp a.eval o).run P w = .ok (.value (.slice (some ⟨g, 0, none⟩) (n + m) c)) (w.setCells g n (news.map b8)) := by
      unfold execOp
      rw [ho]
      simp [resolve, invoke, builtin, st.ag _ _ hx, st.ag _ _ hy, h9]
    obtain ⟨s1, s2, s3⟩ := same_setCells g (news.map b8) n w
    refine op_val hr (done g c (sets cur n (news.map b8)) fr _ ⟨by rw [sets_len, hcl], hroom, hT.most, ?_, hT.mark⟩ (heap_setCells_self g _ n w cur e fr hg) (.inl rfl) ⟨⟨s1, s2, s3, by rw [size_setCells']; exact Nat.le_refl _⟩, fun k _ hk => heap_setCells_else g _ n w k (by simpa using hk)⟩)
    have := sets_take (news.map b8) cur n oM
    rw [hnl] at this
    rw [this, hT.take, List.map_append]
  · have hgrow := grownCap_ge w (n + m) c e
    have hmost := grownCap_le_maxLen w (n + m) c e (by unfold maxLen; omega)
    have h9 := run_append_grow (P := P) w t o.type e ti _ ht hi1 hz ⟨g, 0, none⟩ n c (zs.map b8) (by rw [hsize, List.length_map, hzl, Nat.mul_one]) (fun j v hj => by
      rw [← hT.take, List.getElem?_take] at hj
      split at hj
      · rw [Addr.add_lit]; simp only [World.cell?, hg]; simpa using hj
      · cases hj) ad m c2 (news.map b8) (by rw [hsize, hnl, Nat.mul_one]) (fun j u hu => hrd.cells ad rfl j u hu) oM oM (by rw [hby]; exact growslice_fits oM oM)
    have hr : (execOp a.eval o).run P w = .ok (.value (.slice (some ⟨w.heap.size, 0, none⟩) (n + m) (grownCap w (n + m) c e))) (w.drew.alloc (.cells ((zs.map b8).toArray ++ (news.map b8).toArray ++ Builtin.zeroCells (Value.int .u8 0).cells (grownCap w (n + m) c e - (n + m))) e)) := by
      unfold execOp
      rw [ho]
      simp [resolve, invoke, builtin, st.ag _ _ hx, st.ag _ _ hy, h9]
    have hzc : (Builtin.zeroCells (Value.int .u8 0).cells (grownCap w (n + m) c e - (n + m))).size = grownCap w (n + m) c e - (n + m) := by
      simp [Builtin.zeroCells, Value.cells]
    refine op_val hr (done w.heap.size _ ((zs.map b8).toArray ++ (news.map b8).toArray ++ Builtin.zeroCells (Value.int .u8 0).cells (grownCap w (n + m) c e - (n + m))).toList (0, 0) _ ⟨?_, hgrow, hmost, ?_, .inl rfl⟩ ?_ (.inr (Nat.le_refl _)) ⟨⟨rfl, rfl, rfl, by rw [World.size_alloc]; exact Nat.le_succ _⟩, fun k hk _ => ?_⟩)
    · rw [Array.length_toList, Array.size_append, hzc]; simp [hzl, hnl2]; omega
    · rw [Array.toList_append, List.take_append_of_le_length (by simp [hzl, hnl2]), List.take_of_length_le (by simp [hzl, hnl2])]; simp
    · have := heap_alloc_new w.drew (.cells ((zs.map b8).toArray ++ (news.map b8).toArray ++ Builtin.zeroCells (Value.int .u8 0).cells (grownCap w (n + m) c e - (n + m))) e)
      rw [Array.toArray_toList]
      exact this
    · exact Below.heap_alloc w.drew _ _ hk
end
end Go.Proofs.YtlplpmkdebemnaaGreat.Fw
namespace Go.Proofs.YtlplpmkdebemnaaGreat.Fw
open Go.RowKit Bv
section
variable {P : Program} {X : Cx} {s : List (Nat × Value)} {h : List HA} {o : Oper} {K K0 J : Jd}
theorem foldl_put : ∀ (vs : List Value) (off j0 : Nat) (cells : Array Value), ((vs.zipIdx j0).foldl (fun (cs : Array Value) (x : Value × Nat) => cs.setIfInBounds (off + x.2) x.1) cells).toList = sets cells.toList (off + j0) vs
  | [], _, _, _ => rfl
  | v :: r, off, j0, cells => by
    rw [List.zipIdx_cons, List.foldl_cons, foldl_put r off (j0 + 1)]
    simp [sets, Nat.add_assoc]
theorem run_build2 {w : World} {t : TypeId} {f0 f1 : Field} {z vx vy : Value} {xs ys : List Value} {n m : Nat} (ht : P.underlying t = some (.struct #[f0, f1])) (hz : (P.info? t).bind (·.zero) = some z) (hzl : z.cells.size = n + m) (h0 : f0.offset = 0) (h1 : f1.offset = n) (hn : (P.info? f0.type).map (·.size) = some n) (hm : (P.info? f1.type).map (·.size) = some m)
    (hx : vx.cells.toList = xs) (hy : vy.cells.toList = ys) (hxl : xs.length = n) (hyl : ys.length = m) : (Instr.build t #[(0, vx), (1, vy)]).run P w = .ok (.agg (xs ++ ys).toArray) w := by
  obtain ⟨ti, hti, htz⟩ := Option.bind_eq_some_iff.1 hz
  have sx : vx.cells.size = n := by rw [← Array.length_toList, hx, hxl]
  have sy : vy.cells.size = m := by rw [← Array.length_toList, hy, hyl]
  have fx : ∀ c : Array Value, (vx.cells.zipIdx.foldl (fun (cs : Array Value) (x : Value × Nat) => cs.setIfInBounds (0 + x.2) x.1) c).toList = sets c.toList 0 xs := fun c => by
    rw [← Array.foldl_toList, Array.toList_zipIdx, hx]
    exact foldl_put xs 0 0 c
  have fy : ∀ c : Array Value, (vy.cells.zipIdx.foldl (fun (cs : Array Value) (x : Value × Nat) => cs.setIfInBounds (n + x.2) x.1) c).toList = sets c.toList n ys := fun c => by
    rw [← Array.foldl_toList, Array.toList_zipIdx, hy]
    exact foldl_put ys n 0 c
  generalize hc1 : vx.cells.zipIdx.foldl (fun (cs : Array Value) (x : Value × Nat) => cs.setIfInBounds (0 + x.2) x.1) z.cells = c1
  generalize hc2 : vy.cells.zipIdx.foldl (fun (cs : Array Value) (x : Value × Nat) => cs.setIfInBounds (n + x.2) x.1) c1 = c2
  have l1 : c1.toList = sets z.cells.toList 0 xs := by rw [← hc1]; exact fx _
  have l2 : c2.toList = sets c1.toList n ys := by rw [← hc2]; exact fy _
  have zl : z.cells.toList.length = n + m := by simpa using hzl
  have s1 : c1.size = n + m := by rw [← Array.length_toList, l1, sets_len, zl]
  have e1 := sets_take xs z.cells.toList 0 oM
  have e2 := sets_take ys c1.toList n (by rw [l1, sets_len, zl, hyl]; exact Nat.le_refl _)
  rw [← l1, Nat.zero_add, hxl] at e1
  rw [← l2, e1, hyl] at e2
  have hc : c2 = (xs ++ ys).toArray := by
    apply Array.toList_inj.1
    have : c2.toList.length = n + m := by rw [l2, sets_len, Array.length_toList, s1]
    rw [List.take_of_length_le oM] at e2
    rw [e2]; simp
  have hp : (#[f0, f1].mapM fun (f : Field) => (do pure (f.offset, ← sizeOf f.type) : Sem (Nat × Nat))).run P w = .ok #[(0, n), (n, m)] w := by
    simp [run_sizeOf hn, run_sizeOf hm, h0, h1]
  have hz0 : (zeroValue t).run P w = .ok z w := by simp [zeroValue, typeInfo, hti, htz]
  unfold Instr.build
  rw [Sem.run_bind, hz0, Result.andThen_ok, Sem.run_bind, run_underlying ht, Result.andThen_ok]
  show ((do let places ← #[f0, f1].mapM fun (f : Field) => (do pure (f.offset, ← sizeOf f.type) : Sem (Nat × Nat)); _ : Sem Value)).run P w = _
  rw [Sem.run_bind, hp, Result.andThen_ok]
  have hf : Instr.fill (fun x => (#[(0, n), (n, m)] : Array (Nat × Nat))[x]?) z.cells [(0, vx), (1, vy)] = some c2 := by
    rw [Instr.fill]
    show (if (decide (vx.cells.size ≠ n) || decide (0 + vx.cells.size > z.cells.size)) = true then none else _) = _
    rw [if_neg (by simp [sx, hzl])]
    show Instr.fill _ (vx.cells.zipIdx.foldl (fun (cs : Array Value) (x : Value × Nat) => cs.setIfInBounds (0 + x.2) x.1) z.cells) [(1, vy)] = _
    rw [hc1, Instr.fill]
    show (if (decide (vy.cells.size ≠ m) || decide (n + vy.cells.size > c1.size)) = true then none else _) = _
    rw [if_neg (by simp [sy, s1])]
    show Instr.fill _ (vy.cells.zipIdx.foldl (fun (cs : Array Value) (x : Value × Nat) => cs.setIfInBounds (n + x.2) x.1) c1) [] = _
    rw [hc2]; rfl
  show ((match Instr.fill (fun x => (#[(0, n), (n, m)] : Array (Nat × Nat))[x]?) z.cells [(0, vx), (1, vy)] with | some cells => pure (Value.agg cells) | _ => stuck "build: no such field, or a part of the wrong size" : Sem Value)).run P w = _
  rw [hf, hc]; rfl
theorem run_build2b {w : World} {t : TypeId} {f0 f1 : Field} {z : Value} {a b : List (BitVec 8)} {n m : Nat} (ht : P.underlying t = some (.struct #[f0, f1])) (hz : (P.info? t).bind (·.zero) = some z) (hzl : z.cells.size = n + m) (h0 : f0.offset = 0) (h1 : f1.offset = n) (hn : (P.info? f0.type).map (·.size) = some n) (hm : (P.info? f1.type).map (·.size) = some m)
    (hxl : a.length = n) (hyl : b.length = m) : (Instr.build t #[(0, .agg (a.map b8).toArray), (1, .agg (b.map b8).toArray)]).run P w = .ok (.agg ((a ++ b).map b8).toArray) w := by
  rw [List.map_append]
  exact run_build2 ht hz hzl h0 h1 hn hm rfl rfl (by simpa using hxl) (by simpa using hyl)
end
end Go.Proofs.YtlplpmkdebemnaaGreat.Fw
namespace Go.Proofs.YtlplpmkdebemnaaGreat
set_option maxRecDepth 100000
open Go.RowKit Bv Fw
def kof (job info : List (BitVec 8)) : List (BitVec 8) := hkdf (mactag [] job) info 32
theorem kof_def (job info : List (BitVec 8)) : hkdf (mactag [] job) info 32 = kof job info := rfl
theorem kof_len (job info : List (BitVec 8)) : (kof job info).length = 32 := hkdf_len _ _ _ oM
attribute [irreducible] kof
def nonc (a i : BitVec 64) : List (BitVec 8) := lowb a 8 ++ lowb i 4
theorem nonc_def (a i : BitVec 64) : lowb a 8 ++ lowb i 4 = nonc a i := rfl
theorem nonc_len (a i : BitVec 64) : (nonc a i).length = 12 := by unfold nonc; rw [List.length_append, lowb_len, lowb_len]
attribute [irreducible] nonc
theorem eights_three (a b c : BitVec 64) : (eights [a, b, c]).length = 24 := eights_len _
theorem eights_six (a b c d e f : BitVec 64) : (eights [a, b, c, d, e, f]).length = 48 := eights_len _
theorem txt_next {cur : List Value} {n n' c : Nat} {fr : Nat × Nat} {zs zs' : List (BitVec 8)} (h : Txt cur n c fr zs) (hn : n = n') (hz : zs = zs') : Txt cur n' c fr zs' := hn ▸ hz ▸ h
set_option maxHeartbeats 4000000 in
theorem keights_seq (xs : List (BitVec 64)) (A : Option Addr) (n : Nat) (c : Nat) (g1 : Nat) (hx : xs.length = n) (hn : n ≤ 1000000) : SeqC (Θ := Option Addr × Nat) Tryz.prog 82 [(.pointer (some ⟨g1, 0, none⟩))] [.rd (some ⟨g1, 0, none⟩) 1 1 1 [(.slice A n c)], .rd A 1 n c (xs.map b64)] n (fun k ⟨B, d⟩ => [(.slice B 8 d)]) (fun k ⟨B, d⟩ => [.rd B 1 8 d ((lowb (ath xs k) 8).map b8)]) := by
 have hF : Wid Fence.wide := wid_wide
 refine enter_seq (c := _) Tryz.func82 rfl (by rw [Tryz.ntmps82]; rfl) rfl ?_
 intro l J Jx W O R hsJ hsX hy hend
 rw [Tryz.ntmps82]
 refine lE [(0, (.func (.yield l) #[] #[])), (1, (.pointer (some ⟨g1, 0, none⟩)))] ?_
 refine lH [0, 1, 2] [.inv W.heap.size O R (J 0 O R), .rd (some ⟨g1, 0, none⟩) 1 1 1 [(.slice A n c)], .rd A 1 n c (xs.map b64)] ?_
 refine lT ?_
 refine lQ (ld_rdb (src_rd 1 rfl) rfl Tryz.underlying77 rfl rfl rfl) ?_
 refine lO (pr_len_sl Tryz.underlying77 rfl rfl) ?_
 refine lM ?_
 refine L_nil ?_
 refine T_block ?_
 refine T_loop (T := Nat × List Nat × List Nat) (fun ⟨k, O, R⟩ => k ≤ n) (fun ⟨k, O, R⟩ => [(0, (.func (.yield l) #[] #[])), (5, (.slice A n c)), (6, (.int .i64 ((n : Nat) : Int))), (7, (.int .i64 ((k : Nat) : Int)))]) (fun ⟨k, O, R⟩ => [.inv W.heap.size O R (J k O R), .rd (some ⟨g1, 0, none⟩) 1 1 1 [(.slice A n c)], .rd A 1 n c (xs.map b64)]) (fun ⟨k, O, R⟩ => n - k) (0, O, R) pN (sc rfl (sc rfl (sc rfl (sc rfl sn)))) [0, 1, 2] ⟨by decide, rfl⟩ ?_
 rintro ⟨k, O, R⟩ hp
 have hp : k ≤ n := hp
 refine lE [(0, (.func (.yield l) #[] #[])), (5, (.slice A n c)), (6, (.int .i64 ((n : Nat) : Int))), (7, (.int .i64 ((k : Nat) : Int)))] ?_
 refine lH [0, 1, 2] [.inv W.heap.size O R (J k O R), .rd (some ⟨g1, 0, none⟩) 1 1 1 [(.slice A n c)], .rd A 1 n c (xs.map b64)] ?_
 refine lT ?_
 refine lO (pr_cmp (bo := .lss) (nc_lt (a := k) (b := n)) rfl rfl rfl rfl) ?_
 refine L_nil ?_
 refine T_seq ?_
 refine T_cond (decide (k < n)) rfl (fun hc_1 => ?_) (fun hc_1 => ?_)
 ·have hc_1 := of_decide_eq_true hc_1
  refine T_skip ?_
  refine T_seq ?_
  refine T_block ?_
  refine lT ?_
  refine lO (pr_ixs1 (j := k) (src_none (src_rd 2 rfl)) sd Tryz.underlying77 kr rfl rfl rfl) ?_
  refine lQ (ld_src (m := k) (src_rd 2 rfl) (get64 sd) Tryz.underlying23 rfl rfl rfl) ?_
  refine lS ?_
  refine L_nil ?_
  refine T_seq ?_
  refine T_regI ?_
  refine LI_opP hF rfl rfl (op_pr (pr_move rfl rfl) rfl rfl ?_)
  refine LI_opP hF rfl rfl (op_pr (pr_move rfl rfl) rfl rfl ?_)
  refine LI_opP hF rfl rfl (op_bslice (e := 23) (zs := [(b64 (ath xs k))]) (qs := [(0, (b64 (ath xs k)))]) (fun _ => by kernel_rfl) rfl rfl rfl rfl (fun g2 => ?_))
  refine LI_opP hF rfl rfl (op_cn (fun w hw => eights_f [(ath xs k)] (some ⟨g2, 0, none⟩) 1 1 w (hok_cons ((src_full (z := 1) 0 rfl rfl sd sd) w hw) (hok_nil w)) (by rfl) sd) (enters_of Tryz.func53 kr rfl) rfl rfl rfl rfl rfl (fun t3 q4 => ?_))
  obtain ⟨B5, d6⟩ := t3
  refine T_slot 14 (.slice B5 (8 * 1) d6) (.slice B5 8 d6) rfl (by congr 1) ?_
  refine T_as 0 _ (.row (.slice B5 8 d6) 5 1 8 ((lowb (ath xs k) 8).map b8)) rfl (by rw [eib_one]; done) ?_
  refine T_old 0 rfl ?_
  refine T_tord 0 rfl ?_
  refine LI_op rfl (op_yield (k := k) ((B5 : Option Addr), (d6 : Nat)) hy sd hsJ hsX 2 rfl [0] rfl rfl rfl rfl rfl rfl rfl rfl rfl (fun _ => trivial) (fun O7 R8 => ?_) (fun O9 R10 => ?_))
  ·refine LI_opP hF rfl rfl (op_pr (pr_un (v := .bool false) rfl rfl rfl) rfl rfl ?_)
   refine LI_nil ?_
   refine T_cond_f rfl ?_
   refine T_skip ?_
   refine lR ?_
   refine lO (pr_add (na_i64 (a := k) (b := 1) sd) rfl rfl rfl) ?_
   refine lM ?_
   refine L_nil ?_
   exact T_again (k + 1, O7, R8) pN pN (sc rfl (sc rfl (sc rfl (sc rfl sn)))) [0, 3, 4] ⟨by decide, rfl⟩
  refine LI_opP hF rfl rfl (op_pr (pr_un (v := .bool true) rfl rfl rfl) rfl rfl ?_)
  refine LI_nil ?_
  refine T_cond_t rfl ?_
  refine T_ret ?_
  exact T_finX rfl rfl 0 rfl
 have hc_1 := of_decide_eq_false hc_1
 refine T_exit rfl ?_
 obtain rfl : k = n := by omega
 exact T_finJ rfl rfl 0 rfl
set_option maxHeartbeats 4000000 in
theorem keights_f (A : Option Addr) (n : Nat) (c : Nat) (w : World) (hO : HOK [] w)  : Calls Tryz.prog 58 [(.slice A n c)].toArray w (Ret (T := Nat) [] w (fun g1 => True) (fun g1 => (.func (.func 82) #[] [(.pointer (some ⟨g1, 0, none⟩))].toArray)) (fun g1 => [.old (some ⟨g1, 0, none⟩) 1 1 1 [(.slice A n c)]])) := by
 refine enter (c := _) Tryz.func58 rfl [] _ [] (by rw [Tryz.ntmps58]; rfl) (own_rds hO rfl) ?_
 rw [Tryz.ntmps58]
 refine lE [(0, (.slice A n c))] ?_
 refine lH [] [] ?_
 refine lT ?_
 refine L_op rfl (op_box (zs := [(.slice A n c)]) rfl rfl rfl rfl rfl (fun g1 => ?_))
 refine lS ?_
 refine lN ?_
 refine lO (pr_mkfn (us := []) (vs := [(.pointer (some ⟨g1, 0, none⟩))]) rfl rfl rfl) ?_
 refine lS ?_
 refine L_nil ?_
 refine T_ret ?_
 refine T_oldb 0 (zs := [(.slice A n c)]) 0 1 1 1 rfl rfl rfl sd sd ?_
 exact T_fin g1 qN (res1 rfl rfl) [0] ⟨by decide, rfl⟩ rfl
set_option maxHeartbeats 4000000 in
theorem kinfo_f (wd : List (BitVec 8)) (nw : Nat) (xs : List (BitVec 64)) (A : Option Addr) (n : Nat) (c : Nat) (w : World) (hO : HOK [.rd A 1 n c (xs.map b64)] w) (hnw : wd.length = nw) (hw : nw ≤ 100) (hx : xs.length = n) (hn : n ≤ 100) : Calls Tryz.prog 37 [(.string (sob wd)), (.slice A n c)].toArray w (Ret (T := Option Addr × Nat) [] w (fun ⟨B, d⟩ => True) (fun ⟨B, d⟩ => (.slice B (nw + 8 * n) d)) (fun ⟨B, d⟩ => [.old B 1 (nw + 8 * n) d ((wd ++ eights xs).map b8)])) := by
 have hF : Wid Fence.wide := wid_wide
 refine enter_m (c := _) Tryz.func37 rfl [] _ [.rd A 1 n c (xs.map b64)] (by rw [Tryz.ntmps37]; rfl) (own_rds hO rfl) ?_
 rw [Tryz.ntmps37]
 refine lE [(0, (.string (sob wd))), (1, (.slice A n c))] ?_
 refine lH [0] [.rd A 1 n c (xs.map b64)] ?_
 refine lT ?_
 refine lS ?_
 refine lN ?_
 refine lM ?_
 refine L_op rfl (op_s2b (xs := wd) Tryz.underlying9 Tryz.underlying27 Tryz.underlying5 sd rfl rfl rfl rfl (fun g1 C2 cu3 fr4 hT_5 => ?_))
 replace hT_5 : Txt cu3 wd.length C2 fr4 wd := hT_5
 replace hT_5 : Txt cu3 nw C2 fr4 wd := txt_as hT_5 hnw rfl
 refine T_slot 8 (.slice (some ⟨g1, 0, none⟩) wd.length C2) (.slice (some ⟨g1, 0, none⟩) nw C2) rfl (by rw [hnw]) ?_
 refine L_op rfl (op_alloc (z := (.slice none 0 0)) (zs := [(.slice none 0 0)]) kr rfl rfl rfl rfl (fun g6 => ?_))
 refine L_op rfl (op_store (vs := [(.slice (some ⟨g1, 0, none⟩) nw C2)]) (cs' := [(.slice (some ⟨g1, 0, none⟩) nw C2)]) 0 rfl rfl kr (one_one rfl) (by simp) rfl rfl rfl rfl rfl ?_)
 refine L_nil ?_
 refine T_seq ?_
 refine lT ?_
 refine lM ?_
 refine L_op rfl (op_cn (fun w hw => keights_f A n c w (hok_nil w) ) (enters_of Tryz.func58 kr rfl) rfl rfl rfl rfl rfl (fun t7 q8 => ?_))
 obtain ⟨g1_9, eg1_9⟩ : ∃ x, x = t7 := ⟨_, rfl⟩
 subst eg1_9
 refine L_nil ?_
 refine T_block ?_
 refine T_tord 0 rfl ?_
 refine T_as 1 _ (.blk g6 27 [(.slice (some ⟨g1, 0, none⟩) (nw + 8 * 0) C2)]) rfl (by congr 1) ?_
 refine T_range (Θ := Option Addr × Nat) (T := Nat × Nat × List Value × Nat × Nat) (Tx := Unit) (cap := [(.pointer (some ⟨g1_9, 0, none⟩))]) (ps := [11]) (keights_seq xs A n c g1_9 sd sd) rfl (enters_of Tryz.func82 kr rfl) (fun k ⟨tg, tc, tu, tf⟩ => k ≤ n ∧ Txt tu (nw + 8 * k) tc tf (wd ++ eights (xs.take k))) (fun k ⟨tg, tc, tu, tf⟩ => [.rd (some ⟨g1_9, 0, none⟩) 1 1 1 [(.slice A n c)], .blk g6 27 [(.slice (some ⟨tg, 0, none⟩) (nw + 8 * k) tc)], .obj tg (.cells tu.toArray 5 tf), .rd A 1 n c (xs.map b64)]) (fun _ => False) (fun _ => []) 0 (g1, C2, cu3, fr4) (⟨Nat.zero_le _, txt_next hT_5 oM (by rw [List.take_zero, eights, List.append_nil])⟩) [1, 0, 2, 3] ⟨by decide, rfl⟩ [1, 3] rfl rfl (fun _ _ => rfl) (fun _ => rfl) (fun _ _ => rfl) (fun _ _ => rfl) rfl (fun _ => trivial) ?_ ?_ ?_
 ·intro C2 w2 lo2 rs2 l D m k t th rc hrec hk hp
  obtain ⟨tg, tc, tu, tf⟩ := t
  obtain ⟨B, d⟩ := th
  have hp : k ≤ n ∧ Txt tu (nw + 8 * k) tc tf (wd ++ eights (xs.take k)) := hp
  have hk : k < n := hk
  have hkn : k ≤ n := hp.1
  have hF : Wid (Fence.wide.inRound l) := wid_round l
  refine lE [(5, (.pointer (some ⟨g6, 0, none⟩))), (11, (.slice B 8 d))] ?_
  refine lH [0, 1, 2, 3, 4, 5, 6] [.rd B 1 8 d ((lowb (ath xs k) 8).map b8), .obj l (.loop rc), .obj D (.deferred (some [])), .rd (some ⟨g1_9, 0, none⟩) 1 1 1 [(.slice A n c)], .blk g6 27 [(.slice (some ⟨tg, 0, none⟩) (nw + 8 * k) tc)], .obj tg (.cells tu.toArray 5 tf), .rd A 1 n c (xs.map b64)] ?_
  refine lR ?_
  refine lS ?_
  refine L_nil ?_
  refine T_begun 1 rfl hrec ?_
  refine T_block ?_
  refine lR ?_
  refine lQ (ld_blk 4 rfl rfl Tryz.underlying27 rfl rfl rfl) ?_
  refine lM ?_
  refine L_op rfl (op_app_obj (news := (lowb (ath xs k) 8)) 5 rfl hp.2 Tryz.underlying27 kr (src_rd 1 rfl) sd rfl rfl rfl rfl rfl (fun g10 C11 cu12 fr13 hT_14 => ?_))
  refine L_op rfl (op_store (vs := [(.slice (some ⟨g10, 0, none⟩) (nw + 8 * k + 8) C11)]) (cs' := [(.slice (some ⟨g10, 0, none⟩) (nw + 8 * k + 8) C11)]) 5 rfl rfl kr (one_one rfl) (by simp) rfl rfl rfl rfl rfl ?_)
  refine L_nil ?_
  refine T_as 0 _ (.blk g6 27 [(.slice (some ⟨g10, 0, none⟩) (nw + 8 * (k + 1)) C11)]) rfl (by congr 1) ?_
  exact T_on (g10, C11, cu12, fr13) (⟨by omega, txt_next aS oM (by rw [eights_take _ _ oM, List.append_assoc])⟩) [2, 4, 5, 0, 1, 6] ⟨by decide, rfl⟩
 ·intro D t hp
  obtain ⟨tg, tc, tu, tf⟩ := t
  have hp : n ≤ n ∧ Txt tu (nw + 8 * n) tc tf (wd ++ eights (xs.take n)) := hp
  refine lE [(5, (.pointer (some ⟨g6, 0, none⟩)))] ?_
  refine lH [0, 1, 2, 3, 4] [.obj D (.deferred (some [])), .rd (some ⟨g1_9, 0, none⟩) 1 1 1 [(.slice A n c)], .blk g6 27 [(.slice (some ⟨tg, 0, none⟩) (nw + 8 * n) tc)], .obj tg (.cells tu.toArray 5 tf), .rd A 1 n c (xs.map b64)] ?_
  refine lT ?_
  refine lQ (ld_blk 2 rfl rfl Tryz.underlying27 rfl rfl rfl) ?_
  refine lS ?_
  refine L_nil ?_
  refine T_ret ?_
  refine T_objold 3 rfl hp.2 (Txt.zlen hp.2) ?_
  refine T_as 0 _ (.old (some ⟨tg, 0, none⟩) 1 (nw + 8 * n) tc ((wd ++ eights xs).map b8)) rfl (by rw [List.take_of_length_le oM]) ?_
  exact T_finM 1 rfl (some ⟨tg, 0, none⟩, tc) qN (res1 rfl rfl) [0] ⟨by decide, rfl⟩ rfl
 exact fun D t hq => hq.elim
set_option maxHeartbeats 4000000 in
theorem kplace_f (job : List (BitVec 8)) (pp : BitVec 64) (pr : BitVec 64) (pa : BitVec 64) (pt : BitVec 64) (pi : BitVec 64) (w : World) (hO : HOK [] w) (hj : job.length = 32) : Calls Tryz.prog 33 [(.agg (job.map b8).toArray), (.agg [(.int .i64 (i64 pp)), (.int .i64 (i64 pr)), (.int .i64 (i64 pa)), (b64 pt), (.int .i64 (i64 pi))].toArray)].toArray w (Ret (T := Unit) [] w (fun _ => True) (fun _ => (.agg ((kof job ([112#8, 108#8, 97#8, 99#8, 101#8] ++ eights [pp, pr, pa])).map b8).toArray)) (fun _ => [])) := by
 have hil : (([112#8, 108#8, 97#8, 99#8, 101#8] ++ eights [pp, pr, pa])).length = 29 := by rw [List.length_append, eights_three]; rfl
 have hkl := kof_len job ([112#8, 108#8, 97#8, 99#8, 101#8] ++ eights [pp, pr, pa])
 have hF : Wid Fence.wide := wid_wide
 refine enter (c := _) Tryz.func33 rfl [] _ [] (by rw [Tryz.ntmps33]; rfl) (own_rds hO rfl) ?_
 rw [Tryz.ntmps33]
 refine lE [(0, (.agg (job.map b8).toArray)), (1, (.agg [(.int .i64 (i64 pp)), (.int .i64 (i64 pr)), (.int .i64 (i64 pa)), (b64 pt), (.int .i64 (i64 pi))].toArray))] ?_
 refine lH [] [] ?_
 refine lT ?_
 refine L_op rfl (op_box (zs := (job.map b8)) rfl rfl rfl rfl rfl (fun g1 => ?_))
 refine L_op rfl (op_box (zs := [(.int .i64 (i64 pp)), (.int .i64 (i64 pr)), (.int .i64 (i64 pa)), (b64 pt), (.int .i64 (i64 pi))]) rfl rfl rfl rfl rfl (fun g2 => ?_))
 refine L_op rfl (op_alloc (z := .agg ((List.replicate 32 0#8).map b8).toArray) (zs := ((List.replicate 32 0#8).map b8)) kr rfl rfl rfl rfl (fun g3 => ?_))
 refine L_nil ?_
 refine T_seq ?_
 refine T_regD [.blk g3 22 ((List.replicate 32 0#8).map b8), .blk g2 25 [(.int .i64 (i64 pp)), (.int .i64 (i64 pr)), (.int .i64 (i64 pa)), (b64 pt), (.int .i64 (i64 pi))], .blk g1 22 (job.map b8)] 13 14 #[false, false, false, false, false, false, false, false, false, false, false, false, false, false] hF kr kr ?_
 refine D_pure (i := 0) [0, 1, 2] rfl kr rfl (pr_sla (l := 0) (u := 32) (m := 0) sd sd sd rfl Tryz.underlying22 (z := 1) kr rfl rfl rfl rfl) (.inr rfl) rfl rfl ?_
 refine D_pure (i := 1) [0, 1, 2] rfl kr rfl (pr_fa (m := 0) (m' := 0) (z := 0) (by rfl) Tryz.underlying25 rfl kr rfl rfl) (.inr rfl) rfl rfl ?_
 refine D_pure (i := 4) [0, 1, 2] rfl kr rfl (pr_fa (m := 0) (m' := 1) (z := 0) (by rfl) Tryz.underlying25 rfl kr rfl rfl) (.inr rfl) rfl rfl ?_
 refine D_pure (i := 7) [0, 1, 2] rfl kr rfl (pr_fa (m := 0) (m' := 2) (z := 0) (by rfl) Tryz.underlying25 rfl kr rfl rfl) (.inr rfl) rfl rfl ?_
 refine D_take (i := 2) [0, 1, 2] rfl kr rfl (ld_blk 1 rfl rfl Tryz.underlying3 rfl rfl rfl) rfl rfl rfl ?_
 refine D_pure (i := 3) [0, 1, 2] rfl kr rfl (pr_cv (zc_i64u pp) Tryz.underlying3 Tryz.underlying23 rfl rfl) (.inr rfl) rfl rfl ?_
 refine D_take (i := 5) [0, 1, 2] rfl kr rfl (ld_blk 1 rfl rfl Tryz.underlying3 rfl rfl rfl) rfl rfl rfl ?_
 refine D_pure (i := 6) [0, 1, 2] rfl kr rfl (pr_cv (zc_i64u pr) Tryz.underlying3 Tryz.underlying23 rfl rfl) (.inr rfl) rfl rfl ?_
 refine D_take (i := 8) [0, 1, 2] rfl kr rfl (ld_blk 1 rfl rfl Tryz.underlying3 rfl rfl rfl) rfl rfl rfl ?_
 refine D_pure (i := 9) [0, 1, 2] rfl kr rfl (pr_cv (zc_i64u pa) Tryz.underlying3 Tryz.underlying23 rfl rfl) (.inr rfl) rfl rfl ?_
 refine D_one 10 _ rfl kr rfl (op_bslice (e := 23) (zs := [(b64 pp), (b64 pr), (b64 pa)]) (qs := [(0, (b64 pp)), (1, (b64 pr)), (2, (b64 pa))]) (fun _ => by kernel_rfl) rfl rfl rfl rfl (fun g4 => ?_))
 refine D_on [1, 2, 3] rfl ?_
 refine D_one 11 _ rfl kr rfl (op_cn (fun w hw => kinfo_f [112#8, 108#8, 97#8, 99#8, 101#8] 5 [pp, pr, pa] (some ⟨g4, 0, none⟩) 3 3 w (hok_cons ((src_full (z := 1) 0 rfl rfl sd sd) w hw) (hok_nil w)) (by rfl) sd sd sd) (enters_of Tryz.func37 kr rfl) rfl rfl kr rfl rfl (fun t5 q6 => ?_))
 obtain ⟨B7, d8⟩ := t5
 refine T_slot 16 (.slice B7 (5 + 8 * 3) d8) (.slice B7 29 d8) rfl (by congr 1) ?_
 refine T_as 0 _ (.old B7 1 29 d8 (([112#8, 108#8, 97#8, 99#8, 101#8] ++ eights [pp, pr, pa]).map b8)) rfl rfl ?_
 refine D_on [2, 3, 4] rfl ?_
 refine D_one 12 _ rfl kr rfl (op_cn (fun w hw => key_f [] none 0 0 job (some ⟨g1, 0, none⟩) 32 32 ([112#8, 108#8, 97#8, 99#8, 101#8] ++ eights [pp, pr, pa]) B7 29 d8 w (hok_cons ((src_nil 1) w hw) (hok_cons ((src_full (z := 1) 4 rfl sd sd sd) w hw) (hok_cons ((src_old 0 rfl) w hw) (hok_nil w)))) (by simp; done) sd aS sd hil sd) (enters_of Tryz.func52 kr rfl) rfl rfl rfl rfl rfl (fun t9 q10 => ?_))
 refine T_slot 17 _ (.agg ((kof job ([112#8, 108#8, 97#8, 99#8, 101#8] ++ eights [pp, pr, pa])).map b8).toArray) rfl (by rw [kof_def]) ?_
 refine D_on [2, 3, 4] rfl ?_
 refine D_one 13 _ rfl kr rfl (op_sto (n := 32) (vs := ((kof job ([112#8, 108#8, 97#8, 99#8, 101#8] ++ eights [pp, pr, pa])).map b8)) 2 rfl rfl kr (all8_one _) kr sd rfl rfl rfl rfl ?_)
 refine D_past kr ?_
 refine D_done kr ?_
 refine T_ret ?_
 exact T_fin () qN (resb 0 rfl rfl rfl Tryz.underlying22 rfl (fwz (n := 32) kr sd)) [] ⟨by decide, rfl⟩ rfl
set_option maxHeartbeats 4000000 in
theorem knonce_f (a : BitVec 64) (i : BitVec 64) (w : World) (hO : HOK [] w)  : Calls Tryz.prog 34 [(b64 a), (.int .i64 (i64 i))].toArray w (Ret (T := Unit) [] w (fun _ => True) (fun _ => (.agg ((nonc a i).map b8).toArray)) (fun _ => [])) := by
 have hnl := nonc_len a i
 have hnl2 : (lowb a 8 ++ lowb i 4).length = 12 := by rw [List.length_append, lowb_len, lowb_len]
 refine enter (c := _) Tryz.func34 rfl [] _ [] (by rw [Tryz.ntmps34]; rfl) (own_rds hO rfl) ?_
 rw [Tryz.ntmps34]
 refine lE [(0, (b64 a)), (1, (.int .i64 (i64 i)))] ?_
 refine lH [] [] ?_
 refine lT ?_
 refine L_op rfl (op_alloc (z := .agg ((List.replicate 12 0#8).map b8).toArray) (zs := ((List.replicate 12 0#8).map b8)) kr rfl rfl rfl rfl (fun g1 => ?_))
 refine lN ?_
 refine lM ?_
 refine L_op rfl (op_bslice (e := 23) (zs := [(b64 a)]) (qs := [(0, (b64 a))]) (fun _ => by kernel_rfl) rfl rfl rfl rfl (fun g2 => ?_))
 refine L_op rfl (op_cn (fun w hw => eights_f [a] (some ⟨g2, 0, none⟩) 1 1 w (hok_cons ((src_full (z := 1) 0 rfl rfl sd sd) w hw) (hok_nil w)) (by rfl) sd) (enters_of Tryz.func53 kr rfl) rfl rfl rfl rfl rfl (fun t3 q4 => ?_))
 obtain ⟨B5, d6⟩ := t3
 refine T_slot 7 (.slice B5 (8 * 1) d6) (.slice B5 8 d6) rfl (by congr 1) ?_
 refine T_as 0 _ (.row (.slice B5 8 d6) 5 1 8 ((lowb a 8).map b8)) rfl (by rw [eib_one]; done) ?_
 refine lM ?_
 refine lO (pr_cv (zc_i64u i) Tryz.underlying3 Tryz.underlying23 rfl rfl) ?_
 refine L_op rfl (op_c1 0 rfl (fun w hw => putLow_f (lowb a 8) i 4 B5 8 d6 w (hw _ (List.mem_of_getElem? (i := 0) rfl)) sd sd) (enters_of Tryz.func51 kr rfl) rfl rfl rfl rfl rfl (fun t7 q8 => ?_))
 obtain ⟨B9, d10⟩ := t7
 refine T_slot 10 (.slice B9 (8 + 4) d10) (.slice B9 12 d10) rfl (by congr 1) ?_
 refine T_as 0 _ (.row (.slice B9 12 d10) 5 1 12 (((lowb a 8) ++ lowb i 4).map b8)) rfl rfl ?_
 refine lO (pr_s2a sd Tryz.underlying43 rfl rfl) ?_
 refine lQ (ld_aggs (ds := (((lowb a 8) ++ lowb i 4).map b8)) (src_row 0 rfl) (List.take_length) (by have h1 : ((((lowb a 8) ++ lowb i 4).map b8)).length = 12 := sd; omega) Tryz.underlying43 rfl (fwz (n := 12) kr sd) rfl rfl) ?_
 refine T_slot 12 (.agg (((lowb a 8) ++ lowb i 4).map b8).toArray) (.agg ((nonc a i).map b8).toArray) rfl (by rw [nonc_def]) ?_
 refine L_op rfl (op_sto (n := 12) (vs := ((nonc a i).map b8)) 2 rfl rfl kr (all8_one _) kr sd rfl rfl rfl rfl ?_)
 refine L_nil ?_
 refine T_ret ?_
 exact T_fin () qN (resb 0 rfl rfl rfl Tryz.underlying43 rfl (fwz (n := 12) kr sd)) [] ⟨by decide, rfl⟩ rfl
set_option maxHeartbeats 4000000 in
theorem kaad_f (pp : BitVec 64) (pr : BitVec 64) (pa : BitVec 64) (pt : BitVec 64) (pi : BitVec 64) (sz : Nat) (w : World) (hO : HOK [] w) (hsz : sz ≤ 100000000) : Calls Tryz.prog 16 [(.agg [(.int .i64 (i64 pp)), (.int .i64 (i64 pr)), (.int .i64 (i64 pa)), (b64 pt), (.int .i64 (i64 pi))].toArray), (.int .i64 ((sz : Nat) : Int))].toArray w (Ret (T := Option Addr × Nat) [] w (fun ⟨B, d⟩ => True) (fun ⟨B, d⟩ => (.slice B 48 d)) (fun ⟨B, d⟩ => [.old B 1 48 d ((eights [pp, pr, pa, pt, pi, (BitVec.ofNat 64 sz)]).map b8)])) := by
 refine enter (c := _) Tryz.func16 rfl [] _ [] (by rw [Tryz.ntmps16]; rfl) (own_rds hO rfl) ?_
 rw [Tryz.ntmps16]
 refine lE [(0, (.agg [(.int .i64 (i64 pp)), (.int .i64 (i64 pr)), (.int .i64 (i64 pa)), (b64 pt), (.int .i64 (i64 pi))].toArray)), (1, (.int .i64 ((sz : Nat) : Int)))] ?_
 refine lH [] [] ?_
 refine lT ?_
 refine L_op rfl (op_box (zs := [(.int .i64 (i64 pp)), (.int .i64 (i64 pr)), (.int .i64 (i64 pa)), (b64 pt), (.int .i64 (i64 pi))]) rfl rfl rfl rfl rfl (fun g1 => ?_))
 refine lS ?_
 refine lN ?_
 refine lO (pr_fa (m := 0) (m' := 0) (z := 0) (by rfl) Tryz.underlying25 rfl kr rfl rfl) ?_
 refine lQ (ld_blk 0 rfl rfl Tryz.underlying3 rfl rfl rfl) ?_
 refine lO (pr_cv (zc_i64u pp) Tryz.underlying3 Tryz.underlying23 rfl rfl) ?_
 refine lO (pr_fa (m := 0) (m' := 1) (z := 0) (by rfl) Tryz.underlying25 rfl kr rfl rfl) ?_
 refine lQ (ld_blk 0 rfl rfl Tryz.underlying3 rfl rfl rfl) ?_
 refine lO (pr_cv (zc_i64u pr) Tryz.underlying3 Tryz.underlying23 rfl rfl) ?_
 refine lO (pr_fa (m := 0) (m' := 2) (z := 0) (by rfl) Tryz.underlying25 rfl kr rfl rfl) ?_
 refine lQ (ld_blk 0 rfl rfl Tryz.underlying3 rfl rfl rfl) ?_
 refine lO (pr_cv (zc_i64u pa) Tryz.underlying3 Tryz.underlying23 rfl rfl) ?_
 refine lO (pr_fa (m := 0) (m' := 3) (z := 0) (by rfl) Tryz.underlying25 rfl kr rfl rfl) ?_
 refine lQ (ld_blk 0 rfl rfl Tryz.underlying23 rfl rfl rfl) ?_
 refine lO (pr_fa (m := 0) (m' := 4) (z := 0) (by rfl) Tryz.underlying25 rfl kr rfl rfl) ?_
 refine lQ (ld_blk 0 rfl rfl Tryz.underlying3 rfl rfl rfl) ?_
 refine lO (pr_cv (zc_i64u pi) Tryz.underlying3 Tryz.underlying23 rfl rfl) ?_
 refine lM ?_
 refine lO (pr_cv (nw64 sz) Tryz.underlying3 Tryz.underlying23 rfl rfl) ?_
 refine L_op rfl (op_bslice (e := 23) (zs := [(b64 pp), (b64 pr), (b64 pa), (b64 pt), (b64 pi), (b64 (BitVec.ofNat 64 sz))]) (qs := [(0, (b64 pp)), (1, (b64 pr)), (2, (b64 pa)), (3, (b64 pt)), (4, (b64 pi)), (5, (b64 (BitVec.ofNat 64 sz)))]) (fun _ => by kernel_rfl) rfl rfl rfl rfl (fun g2 => ?_))
 refine L_op rfl (op_cn (fun w hw => kinfo_f [] 0 [pp, pr, pa, pt, pi, (BitVec.ofNat 64 sz)] (some ⟨g2, 0, none⟩) 6 6 w (hok_cons ((src_full (z := 1) 0 rfl rfl sd sd) w hw) (hok_nil w)) (by rfl) sd sd sd) (enters_of Tryz.func37 kr rfl) rfl rfl kr rfl rfl (fun t3 q4 => ?_))
 obtain ⟨B5, d6⟩ := t3
 refine T_slot 22 (.slice B5 (0 + 8 * 6) d6) (.slice B5 48 d6) rfl (by congr 1) ?_
 refine T_as 0 _ (.old B5 1 48 d6 ((eights [pp, pr, pa, pt, pi, (BitVec.ofNat 64 sz)]).map b8)) rfl rfl ?_
 refine lS ?_
 refine L_nil ?_
 refine T_ret ?_
 exact T_fin (B5, d6) qN (res1 rfl rfl) [0] ⟨by decide, rfl⟩ rfl
end Go.Proofs.YtlplpmkdebemnaaGreat
namespace Go.Proofs.YtlplpmkdebemnaaGreat
open Bv Fw
theorem ath_cons0 {k : Nat} (x : BitVec k) (xs : List (BitVec k)) : ath (x :: xs) 0 = x := rfl
theorem ath_consS {k : Nat} (x : BitVec k) (xs : List (BitVec k)) (j : Nat) : ath (x :: xs) (j + 1) = ath xs j := by simp [ath]
theorem ath_over {k : Nat} (xs : List (BitVec k)) (j : Nat) (h : xs.length ≤ j) : ath xs j = 0 := by simp [ath, List.getD_eq_getElem?_getD, h]
theorem ath_rng {k : Nat} (f : Nat → BitVec k) (n j : Nat) (h : j < n) : ath ((List.range n).map f) j = f j := by
  rw [ath_get _ _ (by simpa using h)]; simp
theorem take_succ_ath {k : Nat} (xs : List (BitVec k)) (j : Nat) (h : j < xs.length) : xs.take (j + 1) = xs.take j ++ [ath xs j] := by
  rw [List.take_add_one, List.getElem?_eq_getElem h, ath_get xs j h]; rfl
def vw {k : Nat} : List (BitVec k) → Nat
  | [] => 0
  | x :: xs => x.toNat + 256 * vw xs
theorem vw_nil {k : Nat} : vw ([] : List (BitVec k)) = 0 := rfl
theorem vw_cons {k : Nat} (x : BitVec k) (xs : List (BitVec k)) : vw (x :: xs) = x.toNat + 256 * vw xs := rfl
theorem vw_app {k : Nat} : ∀ (xs ys : List (BitVec k)), vw (xs ++ ys) = vw xs + 256 ^ xs.length * vw ys
  | [], ys => by simp [vw]
  | x :: xs, ys => by
    rw [List.cons_append, vw, vw, vw_app xs ys, List.length_cons, Nat.pow_succ, Nat.mul_add, Nat.mul_comm (256 ^ xs.length) 256, Nat.mul_assoc]
    omega
theorem vw_take_succ {k : Nat} (xs : List (BitVec k)) (j : Nat) (h : j < xs.length) : vw (xs.take (j + 1)) = vw (xs.take j) + 256 ^ j * (ath xs j).toNat := by
  rw [take_succ_ath xs j h, vw_app, List.length_take, Nat.min_eq_left oM, vw_cons, vw_nil]; simp
theorem vw_lt : ∀ (xs : List (BitVec 8)), vw xs < 256 ^ xs.length
  | [] => by simp [vw]
  | x :: xs => by
    have h1 := vw_lt xs
    have h2 := x.isLt
    rw [vw, List.length_cons, Nat.pow_succ]
    omega
theorem vw_set {k : Nat} : ∀ (xs : List (BitVec k)) (j : Nat) (v : BitVec k), j < xs.length → vw (xs.set j v) + 256 ^ j * (ath xs j).toNat = vw xs + 256 ^ j * v.toNat
  | [], j, v, h => by simp at h
  | x :: xs, 0, v, h => by simp [vw, ath_cons0]; omega
  | x :: xs, j + 1, v, h => by
    have h1 := vw_set xs j v (by simpa using h)
    rw [List.set_cons_succ, vw, vw, ath_consS, Nat.pow_succ, Nat.mul_comm (256 ^ j) 256, Nat.mul_assoc, Nat.mul_assoc]
    omega
theorem vw_rep0 {k : Nat} : ∀ n, vw (List.replicate n (0 : BitVec k)) = 0
  | 0 => rfl
  | n + 1 => by rw [List.replicate_succ, vw, vw_rep0 n]; simp
def dig (k n v : Nat) : List (BitVec k) := (List.range n).map fun i => BitVec.ofNat k (v / 256 ^ i % 256)
theorem dig_len (k n v : Nat) : (dig k n v).length = n := by simp [dig]
theorem dig_at (k n v j : Nat) (h : j < n) : ath (dig k n v) j = BitVec.ofNat k (v / 256 ^ j % 256) := ath_rng _ _ _ h
theorem dig_at_nat (k n v j : Nat) (hk : 8 ≤ k) (h : j < n) : (ath (dig k n v) j).toNat = v / 256 ^ j % 256 := by
  rw [dig_at k n v j h, BitVec.toNat_ofNat]
  refine Nat.mod_eq_of_lt (Nat.lt_of_lt_of_le (Nat.mod_lt _ oM) ?_)
  exact Nat.pow_le_pow_right (n := 2) oM hk
theorem mod_pow_succ (v j : Nat) : v % 256 ^ (j + 1) = v % 256 ^ j + 256 ^ j * (v / 256 ^ j % 256) := by
  rw [Nat.pow_succ, Nat.mod_mul]
theorem vw_dig_take (k n v : Nat) (hk : 8 ≤ k) : ∀ j, j ≤ n → vw ((dig k n v).take j) = v % 256 ^ j
  | 0, _ => by simp [vw, Nat.mod_one]
  | j + 1, h => by
    rw [vw_take_succ _ _ (by rw [dig_len]; omega), vw_dig_take k n v hk j oM, dig_at_nat k n v j hk oM, mod_pow_succ]
theorem vw_dig (k n v : Nat) (hk : 8 ≤ k) : vw (dig k n v) = v % 256 ^ n := by
  have := vw_dig_take k n v hk n (Nat.le_refl _)
  rwa [List.take_of_length_le (by rw [dig_len]; omega)] at this
theorem dig_vw : ∀ (xs : List (BitVec 8)) (n : Nat), xs.length = n → dig 8 n (vw xs) = xs := by
  intro xs n hn
  refine ext_ath (by rw [dig_len, hn]) (fun j hj => ?_)
  rw [dig_len] at hj
  apply BitVec.eq_of_toNat_eq
  rw [dig_at_nat 8 n _ j oM hj]
  have hp : 0 < 256 ^ j := Nat.pow_pos oM
  have h1 : vw xs = vw (xs.take j) + 256 ^ j * ((ath xs j).toNat + 256 * vw (xs.drop (j + 1))) := by
    have e : xs = xs.take j ++ (ath xs j :: xs.drop (j + 1)) := by
      rw [ath_get xs j oM, ← List.drop_eq_getElem_cons oM, List.take_append_drop]
    rw [← vw_cons]
    conv => lhs; rw [e, vw_app, List.length_take, Nat.min_eq_left oM]
  have h2 : vw (xs.take j) < 256 ^ j := by
    have := vw_lt (xs.take j)
    rwa [List.length_take, Nat.min_eq_left oM] at this
  rw [h1, Nat.add_mul_div_left _ _ hp, Nat.div_eq_of_lt h2]
  have := (ath xs j).isLt
  omega
theorem dig_mod (k n v m : Nat) (h : n ≤ m) : dig k n (v % 256 ^ m) = dig k n v := by
  refine ext_ath (by rw [dig_len, dig_len]) (fun j hj => ?_)
  rw [dig_len] at hj
  rw [dig_at _ _ _ _ hj, dig_at _ _ _ _ hj]
  congr 1
  obtain ⟨d, rfl⟩ : ∃ d, m = j + 1 + d := ⟨m - j - 1, by omega⟩
  rw [Nat.pow_add, Nat.mod_mul, Nat.pow_succ]
  have hp : 0 < 256 ^ j := Nat.pow_pos oM
  generalize v / (256 ^ j * 256) % 256 ^ d = q
  rw [Nat.mul_assoc, Nat.add_mul_div_left _ _ hp, Nat.mod_mul, Nat.add_mul_div_left _ _ hp, Nat.div_eq_of_lt (Nat.mod_lt _ hp)]
  omega
theorem dig_app (n m a b : Nat) (ha : a < 256 ^ n) : dig 8 n a ++ dig 8 m b = dig 8 (n + m) (a + 256 ^ n * b) := by
  have hl : (dig 8 n a ++ dig 8 m b).length = n + m := by simp [dig_len]
  rw [← dig_vw _ _ hl, vw_app, vw_dig _ _ _ oM, vw_dig _ _ _ oM, dig_len, Nat.mod_eq_of_lt ha]
  rw [← dig_mod 8 (n + m) (a + 256 ^ n * b) (n + m) (Nat.le_refl _), ← dig_mod 8 (n + m) (a + 256 ^ n * (b % 256 ^ m)) (n + m) (Nat.le_refl _)]
  congr 1
  rw [Nat.pow_add, Nat.mod_mul, Nat.mod_mul]
  have hp : 0 < 256 ^ n := Nat.pow_pos oM
  rw [Nat.add_mul_mod_self_left, Nat.add_mul_mod_self_left, Nat.add_mul_div_left _ _ hp, Nat.add_mul_div_left _ _ hp, Nat.div_eq_of_lt ha]
  simp
theorem lowb_dig (v : BitVec 64) : ∀ k, k ≤ 8 → lowb v k = dig 8 k v.toNat := by
  intro k hk
  have hat : ∀ n j, j < n → ath (lowb v n) j = (v >>> (8 * j)).setWidth 8 := by
    intro n
    induction n with
    | zero => intro j hj; omega
    | succ n ih =>
      intro j hj
      rw [lowb]
      by_cases h : j < n
      · rw [ath_app_l _ _ _ (by rw [lowb_len]; exact h), ih j h]
      · obtain rfl : j = n := by omega
        rw [ath_app_r _ _ _ (by rw [lowb_len]; omega), lowb_len, Nat.sub_self]; rfl
  refine ext_ath (by rw [lowb_len, dig_len]) (fun j hj => ?_)
  rw [lowb_len] at hj
  rw [hat k j hj, dig_at _ _ _ _ hj]
  apply BitVec.eq_of_toNat_eq
  rw [BitVec.toNat_setWidth, BitVec.toNat_ushiftRight, BitVec.toNat_ofNat, Nat.shiftRight_eq_div_pow, Nat.pow_mul]
  simp
theorem low_toNat (xs : List (BitVec 8)) : ∀ k, k ≤ 8 → k ≤ xs.length → (low xs k).toNat = vw (xs.take k)
  | 0, _, _ => by simp [low, vw]
  | k + 1, h8, hl => by
    have ih := low_toNat xs k oM oM
    have hlt : vw (xs.take k) < 2 ^ (8 * k) := by
      have := vw_lt (xs.take k)
      rw [List.length_take, Nat.min_eq_left oM] at this
      rw [Nat.pow_mul]; exact this
    have hb := (ath xs k).isLt
    have hpp : (2 : Nat) ^ (8 * k) * 256 ≤ 2 ^ 64 := by
      rw [show (256 : Nat) = 2 ^ 8 from rfl, ← Nat.pow_add]
      exact Nat.pow_le_pow_right oM oM
    have hs : (ath xs k).toNat <<< (8 * k) < 2 ^ 64 := by
      rw [Nat.shiftLeft_eq]
      refine Nat.lt_of_lt_of_le ?_ hpp
      rw [Nat.mul_comm]
      exact Nat.mul_lt_mul_of_pos_left hb (Nat.pow_pos oM)
    have hw : ((ath xs k).setWidth 64).toNat = (ath xs k).toNat := by rw [BitVec.toNat_setWidth]; exact Nat.mod_eq_of_lt oM
    rw [low, BitVec.toNat_or, BitVec.toNat_shiftLeft, hw, Nat.mod_eq_of_lt hs, ih, vw_take_succ xs k oM, Nat.or_comm, ← Nat.shiftLeft_add_eq_or_of_lt hlt, Nat.shiftLeft_eq, Nat.pow_mul]
    have : (2 : Nat) ^ 8 = 256 := rfl
    rw [this, Nat.mul_comm]; omega
theorem vw_take16 (xs : List (BitVec 8)) (n : Nat) (h : 16 ≤ xs.length) : vw (xs.take 16) = (low xs 8).toNat + 2 ^ 64 * (low (xs.drop 8) 8).toNat := by
  rw [low_toNat xs 8 oM oM, low_toNat (xs.drop 8) 8 oM (by simp; omega)]
  have e : xs.take 16 = xs.take 8 ++ (xs.drop 8).take 8 := by rw [← List.take_add]
  rw [e, vw_app, List.length_take, Nat.min_eq_left oM]
/-! The tag. -/
def polyP : Nat := 1361129467683753853853498429727072845819
theorem polyP_eq : polyP = 2 ^ 130 - 5 := rfl
def clampb (key : List (BitVec 8)) : List (BitVec 8) := (List.range 16).map fun i => if i % 4 = 3 then ath key i &&& 15#8 else if i = 4 ∨ i = 8 ∨ i = 12 then ath key i &&& 252#8 else ath key i
theorem clampb_len (key : List (BitVec 8)) : (clampb key).length = 16 := by simp [clampb]
theorem clampb_at (key : List (BitVec 8)) (j : Nat) (h : j < 16) : ath (clampb key) j = if j % 4 = 3 then ath key j &&& 15#8 else if j = 4 ∨ j = 8 ∨ j = 12 then ath key j &&& 252#8 else ath key j := ath_rng _ _ _ h
def pr (key : List (BitVec 8)) : Nat := vw (clampb key)
def ps (key : List (BitVec 8)) : Nat := vw ((key.drop 16).take 16)
def pv (b : List (BitVec 8)) : Nat := vw b + 256 ^ b.length
def pblk (t : List (BitVec 8)) (k : Nat) : List (BitVec 8) := (t.drop (16 * k)).take 16
def pacc (r : Nat) (t : List (BitVec 8)) : Nat → Nat
  | 0 => 0
  | k + 1 => (pacc r t k + pv (pblk t k)) * r % polyP
theorem pacc_zero (r : Nat) (t : List (BitVec 8)) : pacc r t 0 = 0 := rfl
theorem pacc_succ (r : Nat) (t : List (BitVec 8)) (k : Nat) : pacc r t (k + 1) = (pacc r t k + pv (pblk t k)) * r % polyP := rfl
def ptag (key t : List (BitVec 8)) : List (BitVec 8) := dig 8 16 (pacc (pr key) t ((t.length + 15) / 16) + ps key)
theorem ptag_def (key t : List (BitVec 8)) : ptag key t = dig 8 16 (pacc (pr key) t ((t.length + 15) / 16) + ps key) := rfl
theorem ptag_len (key t : List (BitVec 8)) : (ptag key t).length = 16 := dig_len _ _ _
theorem and_le_l (a b : BitVec 8) : (a &&& b).toNat ≤ b.toNat := by rw [BitVec.toNat_and]; exact Nat.and_le_right
theorem pr_lt (key : List (BitVec 8)) : pr key < 2 ^ 124 := by
  unfold pr
  have h1 : clampb key = (clampb key).take 15 ++ [ath (clampb key) 15] := by
    rw [← take_succ_ath _ _ (by rw [clampb_len]; omega), List.take_of_length_le (by rw [clampb_len]; omega)]
  have h2 := vw_lt ((clampb key).take 15)
  rw [List.length_take, clampb_len] at h2
  rw [h1, vw_app, List.length_take, clampb_len, vw_cons, vw_nil, clampb_at _ _ oM, if_pos oM]
  have h3 := and_le_l (ath key 15) 15#8
  have h4 : (15#8).toNat = 15 := rfl
  generalize (ath key 15 &&& 15#8).toNat = z at *
  generalize vw (List.take 15 (clampb key)) = y at *
  have h5 : min 15 16 = 15 := rfl
  rw [h5] at h2 ⊢
  have h6 : (256 : Nat) ^ 15 = 1329227995784915872903807060280344576 := rfl
  have h7 : (2 : Nat) ^ 124 = 21267647932558653966460912964485513216 := rfl
  rw [h6] at *
  rw [h7]
  omega
theorem ps_lt (key : List (BitVec 8)) : ps key < 2 ^ 128 := by
  unfold ps
  have h := vw_lt ((key.drop 16).take 16)
  have h1 : ((key.drop 16).take 16).length ≤ 16 := by simp; omega
  refine Nat.lt_of_lt_of_le h ?_
  exact Nat.le_trans (Nat.pow_le_pow_right oM h1) (by decide)
theorem pblk_len_le (t : List (BitVec 8)) (k : Nat) : (pblk t k).length ≤ 16 := by unfold pblk; simp; omega
theorem pv_lt (b : List (BitVec 8)) (h : b.length ≤ 16) : pv b < 2 ^ 129 := by
  unfold pv
  have h1 := vw_lt b
  have h2 : (256 : Nat) ^ b.length ≤ 256 ^ 16 := Nat.pow_le_pow_right oM h
  have h3 : (2 : Nat) ^ 129 = 2 * 256 ^ 16 := rfl
  rw [h3]; omega
attribute [irreducible] vw dig clampb pr ps pv pblk pacc ptag polyP
end Go.Proofs.YtlplpmkdebemnaaGreat
namespace Go.Proofs.YtlplpmkdebemnaaGreat
open Bv Fw
theorem lt32_mul {a b : Nat} (ha : a < 4294967296) (hb : b < 4294967296) : a * b ≤ 18446744065119617025 := Nat.mul_le_mul (show a ≤ 4294967295 by omega) (show b ≤ 4294967295 by omega)
theorem and_mask32 (x : BitVec 64) : (x &&& 4294967295#64).toNat = x.toNat % 4294967296 := by
  rw [BitVec.toNat_and]
  exact Nat.and_two_pow_sub_one_eq_mod x.toNat 32
theorem shr32 (x : BitVec 64) : (x >>> 32).toNat = x.toNat / 4294967296 := by
  rw [BitVec.toNat_ushiftRight, Nat.shiftRight_eq_div_pow]
theorem split_mul (x1 x0 y1 y0 : Nat) : (4294967296 * x1 + x0) * (4294967296 * y1 + y0) = 18446744073709551616 * (x1 * y1) + 4294967296 * (x1 * y0) + 4294967296 * (x0 * y1) + x0 * y0 := by
  have : 18446744073709551616 * (x1 * y1) = 4294967296 * x1 * (4294967296 * y1) := by
    rw [Nat.mul_mul_mul_comm]
  rw [this, Nat.add_mul, Nat.mul_add, Nat.mul_add, Nat.mul_assoc 4294967296 x1 y0, ← Nat.mul_assoc x0 4294967296 y1, Nat.mul_comm x0 4294967296, Nat.mul_assoc 4294967296 x0 y1]
  omega
theorem mul64_law (x y : BitVec 64) : 18446744073709551616 * ((x >>> 32) * (y >>> 32) + (((x >>> 32) * (y &&& 4294967295#64) + (((x &&& 4294967295#64) * (y &&& 4294967295#64)) >>> 32)) >>> 32) + (((((x >>> 32) * (y &&& 4294967295#64) + (((x &&& 4294967295#64) * (y &&& 4294967295#64)) >>> 32)) &&& 4294967295#64) + (x &&& 4294967295#64) * (y >>> 32)) >>> 32)).toNat + (x * y).toNat = x.toNat * y.toNat := by
  have hx := x.isLt
  have hy := y.isLt
  have ex : x.toNat = 4294967296 * (x.toNat / 4294967296) + x.toNat % 4294967296 := by omega
  have ey : y.toNat = 4294967296 * (y.toNat / 4294967296) + y.toNat % 4294967296 := by omega
  have hxy : x.toNat * y.toNat = 18446744073709551616 * ((x.toNat / 4294967296) * (y.toNat / 4294967296)) + 4294967296 * ((x.toNat / 4294967296) * (y.toNat % 4294967296)) + 4294967296 * ((x.toNat % 4294967296) * (y.toNat / 4294967296)) + (x.toNat % 4294967296) * (y.toNat % 4294967296) := by
    conv => lhs; rw [ex, ey]
    exact split_mul _ _ _ _
  have b1 := lt32_mul (a := x.toNat / 4294967296) (b := y.toNat / 4294967296) oM oM
  have b2 := lt32_mul (a := x.toNat / 4294967296) (b := y.toNat % 4294967296) oM oM
  have b3 := lt32_mul (a := x.toNat % 4294967296) (b := y.toNat / 4294967296) oM oM
  have b4 := lt32_mul (a := x.toNat % 4294967296) (b := y.toNat % 4294967296) oM oM
  simp only [BitVec.toNat_add, BitVec.toNat_mul, and_mask32, shr32]
  generalize (x.toNat / 4294967296) * (y.toNat / 4294967296) = A at *
  generalize (x.toNat / 4294967296) * (y.toNat % 4294967296) = B at *
  generalize (x.toNat % 4294967296) * (y.toNat / 4294967296) = C at *
  generalize (x.toNat % 4294967296) * (y.toNat % 4294967296) = D at *
  rw [hxy]
  clear hxy ex ey hx hy
  omega
theorem mac_step {X hi lo ca p lo2 c1 q c2 : Nat} (hX : 18446744073709551616 * hi + lo = X) (hb : X ≤ 340282366920938463426481119284349108225) (h1 : lo2 + 18446744073709551616 * c1 = lo + ca) (h2 : q + 18446744073709551616 * c2 = p + lo2) (hca : ca < 18446744073709551616) (hp : p < 18446744073709551616) :
    18446744073709551616 * ((hi + c1) + c2) + q = X + ca + p ∧ (hi + c1) + c2 < 18446744073709551616 := by
  refine ⟨by omega, by omega⟩
theorem mul_le64 (x y : BitVec 64) : x.toNat * y.toNat ≤ 340282366920938463426481119284349108225 := Nat.mul_le_mul (show x.toNat ≤ 18446744073709551615 by have := x.isLt; omega) (show y.toNat ≤ 18446744073709551615 by have := y.isLt; omega)
theorem mac_bits {x y hi lo ca p lo2 c1 q c2 : BitVec 64} (hX : 18446744073709551616 * hi.toNat + lo.toNat = x.toNat * y.toNat) (h1 : lo2.toNat + 18446744073709551616 * c1.toNat = lo.toNat + ca.toNat + (0#64).toNat) (h2 : q.toNat + 18446744073709551616 * c2.toNat = p.toNat + lo2.toNat + (0#64).toNat) :
    18446744073709551616 * (hi + c1 + c2).toNat + q.toNat = x.toNat * y.toNat + ca.toNat + p.toNat := by
  have e0 : (0#64).toNat = 0 := rfl
  rw [e0] at h1 h2
  have h := mac_step hX (mul_le64 x y) (by omega : lo2.toNat + 18446744073709551616 * c1.toNat = lo.toNat + ca.toNat) (by omega : q.toNat + 18446744073709551616 * c2.toNat = p.toNat + lo2.toNat) ca.isLt p.isLt
  have e : (hi + c1 + c2).toNat = hi.toNat + c1.toNat + c2.toNat := by
    rw [BitVec.toNat_add, BitVec.toNat_add]
    have := h.2
    omega
  rw [e]
  exact h.1
def v3 (a b c : BitVec 64) : Nat := a.toNat + 18446744073709551616 * b.toNat + 340282366920938463463374607431768211456 * c.toNat
theorem v3_def (a b c : BitVec 64) : v3 a b c = a.toNat + 18446744073709551616 * b.toNat + 340282366920938463463374607431768211456 * c.toNat := rfl
theorem plus_law {a0 a1 a2 x y z s0 c0 s1 c1 : BitVec 64} (h0 : s0.toNat + 18446744073709551616 * c0.toNat = a0.toNat + x.toNat + (0#64).toNat) (h1 : s1.toNat + 18446744073709551616 * c1.toNat = a1.toNat + y.toNat + c0.toNat) (hc1 : c1.toNat ≤ 1) (hb : a2.toNat + z.toNat + 1 < 18446744073709551616) :
    v3 s0 s1 (a2 + (z + c1)) = v3 a0 a1 a2 + v3 x y z := by
  have e0 : (0#64).toNat = 0 := rfl
  rw [e0] at h0
  have e : (a2 + (z + c1)).toNat = a2.toNat + z.toNat + c1.toNat := by
    rw [BitVec.toNat_add, BitVec.toNat_add]; omega
  simp only [v3_def, e]
  omega
theorem and3 (x : BitVec 64) : (x &&& 3#64).toNat = x.toNat % 4 := by
  rw [BitVec.toNat_and]; exact Nat.and_two_pow_sub_one_eq_mod x.toNat 2
theorem andnot3 (x : BitVec 64) : (x &&& ~~~3#64).toNat = x.toNat / 4 * 4 := by
  have e : x &&& ~~~3#64 = (x >>> 2) <<< 2 := by
    apply BitVec.eq_of_getLsbD_eq
    intro i hi
    simp only [BitVec.getLsbD_and, BitVec.getLsbD_not, BitVec.getLsbD_shiftLeft, BitVec.getLsbD_ushiftRight]
    by_cases h : i < 2
    · rcases (by omega : i = 0 ∨ i = 1) with rfl | rfl <;> simp
    · have h1 : 2 + (i - 2) = i := by omega
      have h2 : (3#64).getLsbD i = false := by
        have h3 : 2 ^ 2 ≤ 2 ^ i := Nat.pow_le_pow_right oM oM
        rw [BitVec.getLsbD, BitVec.toNat_ofNat]
        exact Nat.testBit_lt_two_pow oM
      rw [h2, h1]
      simp [h, hi]
  rw [e, BitVec.toNat_shiftLeft, BitVec.toNat_ushiftRight, Nat.shiftRight_eq_div_pow, Nat.shiftLeft_eq]
  have := x.isLt
  omega
theorem once_law (x y : BitVec 64) : ((x >>> 2) ||| (y <<< 62)).toNat = x.toNat / 4 + y.toNat % 4 * 4611686018427387904 := by
  rw [BitVec.toNat_or, BitVec.toNat_shiftLeft, BitVec.toNat_ushiftRight, Nat.shiftRight_eq_div_pow]
  have hx := x.isLt
  have e1 : y.toNat <<< 62 % 2 ^ 64 = (y.toNat % 4) <<< 62 := by rw [Nat.shiftLeft_eq, Nat.shiftLeft_eq]; omega
  rw [e1, Nat.or_comm, ← Nat.shiftLeft_add_eq_or_of_lt (by omega : x.toNat / 2 ^ 2 < 2 ^ 62), Nat.shiftLeft_eq]
  omega
theorem shr2 (x : BitVec 64) : (x >>> 2).toNat = x.toNat / 4 := by rw [BitVec.toNat_ushiftRight, Nat.shiftRight_eq_div_pow]
theorem dist32 (a0 a1 a2 r0 r1 : Nat) : (a0 + 18446744073709551616 * a1 + 340282366920938463463374607431768211456 * a2) * (r0 + 18446744073709551616 * r1) = a0 * r0 + 18446744073709551616 * (a0 * r1) + 18446744073709551616 * (a1 * r0) + 340282366920938463463374607431768211456 * (a1 * r1) + 340282366920938463463374607431768211456 * (a2 * r0) + 6277101735386680763835789423207666416102355444464034512896 * (a2 * r1) := by
  have e1 : 340282366920938463463374607431768211456 * (a1 * r1) = 18446744073709551616 * a1 * (18446744073709551616 * r1) := by rw [Nat.mul_mul_mul_comm]
  have e2 : 6277101735386680763835789423207666416102355444464034512896 * (a2 * r1) = 340282366920938463463374607431768211456 * a2 * (18446744073709551616 * r1) := by rw [Nat.mul_mul_mul_comm]
  rw [e1, e2]
  simp only [Nat.add_mul, Nat.mul_add]
  rw [Nat.mul_assoc 18446744073709551616 a1 r0, Nat.mul_assoc 340282366920938463463374607431768211456 a2 r0, Nat.mul_left_comm a0 18446744073709551616 r1]
  omega
theorem rows_law {a0 a1 a2 r0 r1 p0 p1 p2 p1' p2' p3 p2'' p3' p4 k00 k01 k10 k11 k20 k21 : Nat}
    (h00 : 18446744073709551616 * k00 + p0 = a0 * r0 + 0 + 0) (h01 : 18446744073709551616 * k01 + p1 = a0 * r1 + k00 + 0) (e2 : p2 = k01)
    (h10 : 18446744073709551616 * k10 + p1' = a1 * r0 + 0 + p1) (h11 : 18446744073709551616 * k11 + p2' = a1 * r1 + k10 + p2) (e3 : p3 = k11)
    (h20 : 18446744073709551616 * k20 + p2'' = a2 * r0 + 0 + p2') (h21 : 18446744073709551616 * k21 + p3' = a2 * r1 + k20 + p3) (e4 : p4 = k21) :
    p0 + 18446744073709551616 * p1' + 340282366920938463463374607431768211456 * p2'' + 6277101735386680763835789423207666416102355444464034512896 * p3' + 115792089237316195423570985008687907853269984665640564039457584007913129639936 * p4 = (a0 + 18446744073709551616 * a1 + 340282366920938463463374607431768211456 * a2) * (r0 + 18446744073709551616 * r1) := by
  rw [dist32]; omega
theorem fold_law {p0 p1 p2 p3 p4 : BitVec 64} {Q out : Nat} (hQ : p0.toNat + 18446744073709551616 * p1.toNat + 340282366920938463463374607431768211456 * p2.toNat + 6277101735386680763835789423207666416102355444464034512896 * p3.toNat + 115792089237316195423570985008687907853269984665640564039457584007913129639936 * p4.toNat = Q)
    (ho : out = v3 p0 p1 (p2 &&& 3#64) + v3 (p2 &&& ~~~3#64) p3 p4 + v3 (((p2 &&& ~~~3#64) >>> 2) ||| (p3 <<< 62)) ((p3 >>> 2) ||| (p4 <<< 62)) (p4 >>> 2)) :
    out % polyP = Q % polyP ∧ out ≤ 1361129467683753853853498429727072845823 + 5 * (Q / 1361129467683753853853498429727072845824) := by
  simp only [v3_def, and3, andnot3, once_law, shr2] at ho
  have h0 := p0.isLt
  have h1 := p1.isLt
  have h2 := p2.isLt
  have h3 := p3.isLt
  have h4 := p4.isLt
  generalize p0.toNat = a0 at *
  generalize p1.toNat = a1 at *
  generalize p2.toNat = a2 at *
  generalize p3.toNat = a3 at *
  generalize p4.toNat = a4 at *
  obtain ⟨h, hh⟩ : ∃ h, h = Q / 1361129467683753853853498429727072845824 := ⟨_, rfl⟩
  have eh : h = a2 / 4 + 4611686018427387904 * a3 + 85070591730234615865843651857942052864 * a4 := by omega
  have e : out + polyP * h = Q := by rw [polyP_eq]; omega
  refine ⟨by rw [← e, Nat.add_mul_mod_self_left], ?_⟩
  rw [← hh]
  omega
theorem v3_lt_top {a b c : BitVec 64} {B : Nat} (h : v3 a b c < 340282366920938463463374607431768211456 * B) : c.toNat < B := by
  rw [v3_def] at h; omega
attribute [irreducible] v3
end Go.Proofs.YtlplpmkdebemnaaGreat
namespace Go.Proofs.YtlplpmkdebemnaaGreat
open Bv Fw
theorem vw_split {k : Nat} (xs : List (BitVec k)) (i : Nat) (h : i < xs.length) : vw xs = vw (xs.take i) + 256 ^ i * ((ath xs i).toNat + 256 * vw (xs.drop (i + 1))) := by
  have e : xs = xs.take i ++ (ath xs i :: xs.drop (i + 1)) := by
    rw [ath_get xs i h, ← List.drop_eq_getElem_cons h, List.take_append_drop]
  rw [← vw_cons]
  conv => lhs; rw [e, vw_app, List.length_take, Nat.min_eq_left oM]
def Bd {k : Nat} (B : Nat) (xs : List (BitVec k)) : Prop := ∀ j, (ath xs j).toNat < B
theorem vw_take_lt {k : Nat} {B : Nat} (xs : List (BitVec k)) (hB : Bd B xs) : ∀ i, i ≤ xs.length → vw (xs.take i) < B * 256 ^ i
  | 0, _ => by
    have := hB 0
    rw [List.take_zero, vw_nil]; simp <;> omega
  | i + 1, h => by
    rw [vw_take_succ xs i oM, Nat.pow_succ]
    have h1 := vw_take_lt xs hB i oM
    have h2 := hB i
    have h3 : 256 ^ i * (ath xs i).toNat ≤ 256 ^ i * B := Nat.mul_le_mul_left _ oM
    have h4 : B * (256 ^ i * 256) = (256 ^ i * B) * 256 := by rw [← Nat.mul_assoc, Nat.mul_comm B]
    rw [h4]
    have h5 : B * 256 ^ i = 256 ^ i * B := Nat.mul_comm _ _
    rw [h5] at h1
    generalize 256 ^ i * B = q at *
    omega
def cy (xs : List (BitVec 32)) (i : Nat) : Nat := vw (xs.take i) / 256 ^ i
theorem cy_zero (xs : List (BitVec 32)) : cy xs 0 = 0 := by unfold cy; rw [List.take_zero, vw_nil]
theorem cy_succ (xs : List (BitVec 32)) (i : Nat) (h : i < xs.length) : cy xs (i + 1) = (cy xs i + (ath xs i).toNat) / 256 := by
  unfold cy
  rw [vw_take_succ xs i h, Nat.pow_succ, ← Nat.div_div_eq_div_mul, Nat.add_mul_div_left _ _ (Nat.pow_pos oM)]
theorem cy_lt (xs : List (BitVec 32)) (B : Nat) (hB : Bd B xs) (i : Nat) (h : i ≤ xs.length) : cy xs i < B := by
  unfold cy
  exact Nat.div_lt_of_lt_mul (by rw [Nat.mul_comm]; exact vw_take_lt xs hB i h)
theorem cy_dig (xs : List (BitVec 32)) (i : Nat) (h : i < xs.length) : (cy xs i + (ath xs i).toNat) % 256 = vw xs / 256 ^ i % 256 := by
  have hp : 0 < 256 ^ i := Nat.pow_pos oM
  unfold cy
  rw [vw_split xs i h, Nat.add_mul_div_left _ _ hp]
  omega
def cw (xs : List (BitVec 32)) (i : Nat) : List (BitVec 32) := dig 32 i (vw xs) ++ xs.drop i
theorem cw_len (xs : List (BitVec 32)) (i : Nat) (h : i ≤ xs.length) : (cw xs i).length = xs.length := by unfold cw; rw [List.length_append, dig_len, List.length_drop]; omega
theorem cw_zero (xs : List (BitVec 32)) : cw xs 0 = xs := by unfold cw dig; simp
theorem cw_all (xs : List (BitVec 32)) (n : Nat) (h : xs.length = n) : cw xs n = dig 32 n (vw xs) := by unfold cw; rw [List.drop_of_length_le oM, List.append_nil]
theorem cw_at (xs : List (BitVec 32)) (i : Nat) (h : i < xs.length) : ath (cw xs i) i = ath xs i := by
  unfold cw; rw [ath_app_r _ _ _ (by rw [dig_len]; omega), dig_len, ath_drop]; congr 1; omega
theorem dig_succ (k n v : Nat) : dig k (n + 1) v = dig k n v ++ [BitVec.ofNat k (v / 256 ^ n % 256)] := by
  unfold dig; rw [List.range_succ, List.map_append]; rfl
theorem cw_set (xs : List (BitVec 32)) (i : Nat) (h : i < xs.length) (v : BitVec 32) (hv : v.toNat = vw xs / 256 ^ i % 256) : (cw xs i).set i v = cw xs (i + 1) := by
  unfold cw
  rw [List.set_append_right _ _ (by rw [dig_len]; omega), dig_len, Nat.sub_self, List.drop_eq_getElem_cons h, List.set_cons_zero, dig_succ, List.append_assoc]
  congr 1
  rw [List.singleton_append]
  congr 1
  apply BitVec.eq_of_toNat_eq
  rw [hv, BitVec.toNat_ofNat]
  omega
theorem cy_add (xs : List (BitVec 32)) (B : Nat) (hB : Bd B xs) (hB2 : B ≤ 1073741824) (i : Nat) (h : i < xs.length) : (BitVec.ofNat 32 (cy xs i) + ath xs i).toNat = cy xs i + (ath xs i).toNat := by
  have h1 := cy_lt xs B hB i oM
  have h2 := hB i
  rw [BitVec.toNat_add, BitVec.toNat_ofNat, Nat.mod_eq_of_lt (a := cy xs i) oM, Nat.mod_eq_of_lt oM]
theorem cw_step (xs : List (BitVec 32)) (B : Nat) (hB : Bd B xs) (hB2 : B ≤ 1073741824) (i : Nat) (h : i < xs.length) : (cw xs i).set i ((BitVec.ofNat 32 (cy xs i) + ath (cw xs i) i) &&& 255#32) = cw xs (i + 1) := by
  refine cw_set xs i h _ ?_
  rw [cw_at xs i h, BitVec.toNat_and, cy_add xs B hB hB2 i h]
  exact (Nat.and_two_pow_sub_one_eq_mod _ 8).trans (cy_dig xs i h)
theorem cy_step (xs : List (BitVec 32)) (B : Nat) (hB : Bd B xs) (hB2 : B ≤ 1073741824) (i : Nat) (h : i < xs.length) : (BitVec.ofNat 32 (cy xs i) + ath (cw xs i) i) >>> 8 = BitVec.ofNat 32 (cy xs (i + 1)) := by
  apply BitVec.eq_of_toNat_eq
  have h1 := cy_lt xs B hB (i + 1) oM
  rw [cw_at xs i h, BitVec.toNat_ushiftRight, cy_add xs B hB hB2 i h, Nat.shiftRight_eq_div_pow, BitVec.toNat_ofNat, cy_succ xs i h, Nat.mod_eq_of_lt (by rw [cy_succ xs i h] at h1; omega)]
theorem dig_bd (n v : Nat) : Bd 256 (dig 32 n v) := fun j => by
  by_cases h : j < n
  · rw [dig_at_nat 32 n v j oM h]; omega
  · rw [ath_over _ _ (by rw [dig_len]; omega)]; decide
/-! Less, modulo 2^130 - 5. -/
def redlow (v i : Nat) : List (BitVec 32) := (List.range 40).map fun j => if j < i then BitVec.ofNat 32 (v % 1361129467683753853853498429727072845824 / 256 ^ j % 256) else 0#32
def redhigh (v i : Nat) : List (BitVec 32) := (List.range 40).map fun j => if j + 16 < i then BitVec.ofNat 32 (v / 1361129467683753853853498429727072845824 / 256 ^ j % 256) else 0#32
theorem redlow_len (v i : Nat) : (redlow v i).length = 40 := by simp [redlow]
theorem redhigh_len (v i : Nat) : (redhigh v i).length = 40 := by simp [redhigh]
theorem redlow_at (v i j : Nat) (h : j < 40) : ath (redlow v i) j = if j < i then BitVec.ofNat 32 (v % 1361129467683753853853498429727072845824 / 256 ^ j % 256) else 0#32 := ath_rng _ _ _ h
theorem redhigh_at (v i j : Nat) (h : j < 40) : ath (redhigh v i) j = if j + 16 < i then BitVec.ofNat 32 (v / 1361129467683753853853498429727072845824 / 256 ^ j % 256) else 0#32 := ath_rng _ _ _ h
theorem ath_repz {k : Nat} (n j : Nat) : ath (List.replicate n (0 : BitVec k)) j = 0 := by
  unfold ath
  rw [List.getD_eq_getElem?_getD, List.getElem?_replicate]
  split <;> rfl
theorem redlow_zero (v : Nat) : redlow v 0 = List.replicate 40 0#32 := by
  refine ext_ath (by simp [redlow_len]) (fun j hj => ?_)
  rw [redlow_len] at hj
  rw [redlow_at _ _ _ hj, if_neg oM]; exact (ath_repz 40 j).symm
theorem redhigh_zero (v : Nat) : redhigh v 0 = List.replicate 40 0#32 := by
  refine ext_ath (by simp [redhigh_len]) (fun j hj => ?_)
  rw [redhigh_len] at hj
  rw [redhigh_at _ _ _ hj, if_neg oM]; exact (ath_repz 40 j).symm
theorem redhigh_stay (v i : Nat) (h : i < 16) : redhigh v (i + 1) = redhigh v i := by
  refine ext_ath (by rw [redhigh_len, redhigh_len]) (fun j hj => ?_)
  rw [redhigh_len] at hj
  rw [redhigh_at _ _ _ hj, redhigh_at _ _ _ hj, if_neg oM, if_neg oM]
theorem pow_16 : (256 : Nat) ^ 16 = 340282366920938463463374607431768211456 := rfl
theorem low_digit (v j : Nat) (h : j < 16) : v % 1361129467683753853853498429727072845824 / 256 ^ j % 256 = v / 256 ^ j % 256 := by
  obtain ⟨d, hd⟩ : ∃ d, 16 = j + 1 + d := ⟨15 - j, by omega⟩
  have e : 1361129467683753853853498429727072845824 = 256 ^ j * (256 * (256 ^ d * 4)) := by
    have : 256 ^ j * (256 * (256 ^ d * 4)) = 256 ^ (j + 1 + d) * 4 := by rw [Nat.pow_add, Nat.pow_succ]; ac_rfl
    rw [this, ← hd, pow_16]
  rw [e, Nat.mod_mul, Nat.add_mul_div_left _ _ (Nat.pow_pos oM), Nat.div_eq_of_lt (Nat.mod_lt _ (Nat.pow_pos oM)), Nat.zero_add, Nat.mod_mul, Nat.add_mul_mod_self_left, Nat.mod_mod]
theorem low_digit16 (v : Nat) : v % 1361129467683753853853498429727072845824 / 256 ^ 16 % 256 = v / 256 ^ 16 % 256 % 4 := by
  rw [pow_16]; omega
theorem low_digit_over (v j : Nat) (h : 16 < j) : v % 1361129467683753853853498429727072845824 / 256 ^ j % 256 = 0 := by
  rw [Nat.div_eq_of_lt]
  have h1 : (256 : Nat) ^ 17 ≤ 256 ^ j := Nat.pow_le_pow_right oM h
  have h2 : (256 : Nat) ^ 17 = 87112285931760246646623899502532662132736 := rfl
  have h3 := Nat.mod_lt v (show 0 < 1361129467683753853853498429727072845824 by omega)
  omega
theorem set_of_at {xs ys : List (BitVec 32)} {i : Nat} {v : BitVec 32} (hl : xs.length = ys.length) (hi : i < xs.length) (hv : v = ath ys i) (h : ∀ j, j < xs.length → j ≠ i → ath xs j = ath ys j) : xs.set i v = ys := by
  refine ext_ath (by rw [List.length_set, hl]) (fun j hj => ?_)
  rw [List.length_set] at hj
  rw [ath_set _ _ _ _ hi]
  split
  · next e => subst e; exact hv
  · next e => exact h j hj (fun h => e h.symm)
theorem redlow_set (v i : Nat) (hi : i < 16) : (redlow v i).set i (ath (dig 32 40 v) i) = redlow v (i + 1) := by
  refine set_of_at (by rw [redlow_len, redlow_len]) (by rw [redlow_len]; omega) ?_ (fun j hj hne => ?_)
  · rw [redlow_at _ _ _ oM, if_pos oM, dig_at _ _ _ _ oM, low_digit v i hi]
  · rw [redlow_len] at hj
    rw [redlow_at _ _ _ hj, redlow_at _ _ _ hj]
    by_cases h : j < i
    · rw [if_pos h, if_pos oM]
    · rw [if_neg h, if_neg oM]
theorem redlow_set16 (v : Nat) : (redlow v 16).set 16 (ath (dig 32 40 v) 16 &&& 3#32) = redlow v 17 := by
  refine set_of_at (by rw [redlow_len, redlow_len]) (by rw [redlow_len]; omega) ?_ (fun j hj hne => ?_)
  · rw [redlow_at _ _ _ oM, if_pos oM]
    apply BitVec.eq_of_toNat_eq
    have e : (ath (dig 32 40 v) 16 &&& 3#32).toNat = v / 256 ^ 16 % 256 % 4 := by
      rw [BitVec.toNat_and, dig_at_nat 32 40 v 16 oM oM]; exact Nat.and_two_pow_sub_one_eq_mod _ 2
    rw [e, BitVec.toNat_ofNat, low_digit16]
    omega
  · rw [redlow_len] at hj
    rw [redlow_at _ _ _ hj, redlow_at _ _ _ hj]
    by_cases h : j < 16
    · rw [if_pos h, if_pos oM]
    · rw [if_neg h, if_neg oM]
theorem redlow_stay (v i : Nat) (hi : 16 < i) : redlow v (i + 1) = redlow v i := by
  refine ext_ath (by rw [redlow_len, redlow_len]) (fun j hj => ?_)
  rw [redlow_len] at hj
  rw [redlow_at _ _ _ hj, redlow_at _ _ _ hj]
  by_cases h : j < i
  · rw [if_pos h, if_pos oM]
  · rw [if_neg h]
    by_cases h2 : j < i + 1
    · rw [if_pos h2, low_digit_over v j oM]
    · rw [if_neg h2]
theorem redlow_all (v : Nat) : redlow v 40 = dig 32 40 (v % 1361129467683753853853498429727072845824) := by
  refine ext_ath (by rw [redlow_len, dig_len]) (fun j hj => ?_)
  rw [redlow_len] at hj
  rw [redlow_at _ _ _ hj, if_pos hj, dig_at _ _ _ _ hj]
theorem high_digit (v j : Nat) : v / 1361129467683753853853498429727072845824 / 256 ^ j % 256 = (v / 256 ^ (16 + j) % 256) / 4 + (v / 256 ^ (16 + j + 1) % 256 * 64) % 256 := by
  have e1 : v / 1361129467683753853853498429727072845824 / 256 ^ j = v / 256 ^ (16 + j) / 4 := by
    rw [Nat.div_div_eq_div_mul, Nat.div_div_eq_div_mul, Nat.pow_add, pow_16]
    congr 1
    rw [show (1361129467683753853853498429727072845824 : Nat) = 340282366920938463463374607431768211456 * 4 from rfl]
    ac_rfl
  have e2 : v / 256 ^ (16 + j + 1) = v / 256 ^ (16 + j) / 256 := by rw [Nat.pow_succ, Nat.div_div_eq_div_mul]
  rw [e1, e2]
  generalize v / 256 ^ (16 + j) = w
  omega
theorem or6 (a b : BitVec 32) (ha : a.toNat < 256) (hb : b.toNat < 256) : ((a >>> 2) ||| (b <<< 6 &&& 255#32)).toNat = a.toNat / 4 + (b.toNat * 64) % 256 := by
  rw [BitVec.toNat_or, BitVec.toNat_and, BitVec.toNat_shiftLeft, BitVec.toNat_ushiftRight, Nat.shiftRight_eq_div_pow]
  have e1 : b.toNat <<< 6 % 2 ^ 32 &&& (255#32).toNat = (b.toNat % 4) <<< 6 := by
    rw [Nat.shiftLeft_eq, Nat.shiftLeft_eq]
    refine (Nat.and_two_pow_sub_one_eq_mod _ 8).trans ?_
    omega
  rw [e1, Nat.or_comm, ← Nat.shiftLeft_add_eq_or_of_lt (by omega : a.toNat / 2 ^ 2 < 2 ^ 6), Nat.shiftLeft_eq]
  omega
theorem redhigh_set (v i : Nat) (h1 : 16 ≤ i) (h2 : i < 40) (x : BitVec 32) (hv : v < 256 ^ 40) (hx : x = if i + 1 < 40 then ath (dig 32 40 v) (i + 1) else 0#32) : (redhigh v i).set (i - 16) ((ath (dig 32 40 v) i >>> 2) ||| (x <<< 6 &&& 255#32)) = redhigh v (i + 1) := by
  refine set_of_at (by rw [redhigh_len, redhigh_len]) (by rw [redhigh_len]; omega) ?_ (fun j hj hne => ?_)
  · have hx2 : x.toNat = v / 256 ^ (i + 1) % 256 := by
      subst hx
      split
      · next h => rw [dig_at_nat 32 40 v _ oM h]
      · next h =>
        have : v / 256 ^ (i + 1) = 0 := Nat.div_eq_of_lt (Nat.lt_of_lt_of_le hv (Nat.pow_le_pow_right oM oM))
        rw [this]; rfl
    have ha := dig_at_nat 32 40 v i oM h2
    rw [redhigh_at _ _ _ oM, if_pos oM]
    apply BitVec.eq_of_toNat_eq
    rw [or6 _ _ (by rw [ha]; omega) (by rw [hx2]; omega), ha, hx2, BitVec.toNat_ofNat, high_digit, show 16 + (i - 16) = i by omega]
    omega
  · rw [redhigh_len] at hj
    rw [redhigh_at _ _ _ hj, redhigh_at _ _ _ hj]
    by_cases h : j + 16 < i
    · rw [if_pos h, if_pos oM]
    · rw [if_neg h, if_neg oM]
theorem redhigh_all (v : Nat) (hv : v < 256 ^ 40) : redhigh v 40 = dig 32 40 (v / 1361129467683753853853498429727072845824) := by
  refine ext_ath (by rw [redhigh_len, dig_len]) (fun j hj => ?_)
  rw [redhigh_len] at hj
  rw [redhigh_at _ _ _ hj, dig_at _ _ _ _ hj]
  by_cases h : j + 16 < 40
  · rw [if_pos h]
  · rw [if_neg h, high_digit]
    have h1 : v / 256 ^ (16 + j) = 0 := Nat.div_eq_of_lt (Nat.lt_of_lt_of_le hv (Nat.pow_le_pow_right oM oM))
    have h2 : v / 256 ^ (16 + j + 1) = 0 := Nat.div_eq_of_lt (Nat.lt_of_lt_of_le hv (Nat.pow_le_pow_right oM oM))
    rw [h1, h2]
def lowhigh (v i : Nat) : List (BitVec 32) := (List.range 40).map fun j => if j < i then ath (dig 32 40 (v % 1361129467683753853853498429727072845824)) j + 5#32 * ath (dig 32 40 (v / 1361129467683753853853498429727072845824)) j else ath (dig 32 40 (v % 1361129467683753853853498429727072845824)) j
theorem lowhigh_len (v i : Nat) : (lowhigh v i).length = 40 := by simp [lowhigh]
theorem lowhigh_at (v i j : Nat) (h : j < 40) : ath (lowhigh v i) j = if j < i then ath (dig 32 40 (v % 1361129467683753853853498429727072845824)) j + 5#32 * ath (dig 32 40 (v / 1361129467683753853853498429727072845824)) j else ath (dig 32 40 (v % 1361129467683753853853498429727072845824)) j := ath_rng _ _ _ h
theorem lowhigh_zero (v : Nat) : lowhigh v 0 = dig 32 40 (v % 1361129467683753853853498429727072845824) := by
  refine ext_ath (by rw [lowhigh_len, dig_len]) (fun j hj => ?_)
  rw [lowhigh_len] at hj
  rw [lowhigh_at _ _ _ hj, if_neg oM]
theorem lowhigh_set (v i : Nat) (h : i < 40) : (lowhigh v i).set i (ath (lowhigh v i) i + 5#32 * ath (dig 32 40 (v / 1361129467683753853853498429727072845824)) i) = lowhigh v (i + 1) := by
  refine set_of_at (by rw [lowhigh_len, lowhigh_len]) (by rw [lowhigh_len]; omega) ?_ (fun j hj hne => ?_)
  · rw [lowhigh_at _ _ _ h, lowhigh_at _ _ _ h, if_neg oM, if_pos oM]
  · rw [lowhigh_len] at hj
    rw [lowhigh_at _ _ _ hj, lowhigh_at _ _ _ hj]
    by_cases h : j < i
    · rw [if_pos h, if_pos oM]
    · rw [if_neg h, if_neg oM]
theorem lowhigh_atn (v j : Nat) (h : j < 40) : (ath (lowhigh v 40) j).toNat = (ath (dig 32 40 (v % 1361129467683753853853498429727072845824)) j).toNat + 5 * (ath (dig 32 40 (v / 1361129467683753853853498429727072845824)) j).toNat := by
  rw [lowhigh_at _ _ _ h, if_pos h, BitVec.toNat_add, BitVec.toNat_mul]
  have h1 := dig_bd 40 (v % 1361129467683753853853498429727072845824) j
  have h2 := dig_bd 40 (v / 1361129467683753853853498429727072845824) j
  have h3 : (5#32).toNat = 5 := rfl
  rw [h3]; omega
theorem lowhigh_bd (v : Nat) : Bd 2000 (lowhigh v 40) := fun j => by
  by_cases h : j < 40
  · rw [lowhigh_atn v j h]
    have h1 := dig_bd 40 (v % 1361129467683753853853498429727072845824) j
    have h2 := dig_bd 40 (v / 1361129467683753853853498429727072845824) j
    omega
  · rw [ath_over _ _ (by rw [lowhigh_len]; omega)]; decide
theorem vw_lin {k : Nat} (c : Nat) (xs ys zs : List (BitVec k)) (n : Nat) (hx : xs.length = n) (hy : ys.length = n) (hz : zs.length = n) (h : ∀ j, j < n → (ath zs j).toNat = (ath xs j).toNat + c * (ath ys j).toNat) : ∀ i, i ≤ n → vw (zs.take i) = vw (xs.take i) + c * vw (ys.take i)
  | 0, _ => by simp [vw_nil]
  | i + 1, hi => by
    rw [vw_take_succ _ _ oM, vw_take_succ _ _ oM, vw_take_succ _ _ oM, vw_lin c xs ys zs n hx hy hz h i oM, h i oM, Nat.mul_add, Nat.mul_add, Nat.mul_left_comm c]
    omega
theorem vw_lin_all {k : Nat} (c : Nat) (xs ys zs : List (BitVec k)) (n : Nat) (hx : xs.length = n) (hy : ys.length = n) (hz : zs.length = n) (h : ∀ j, j < n → (ath zs j).toNat = (ath xs j).toNat + c * (ath ys j).toNat) : vw zs = vw xs + c * vw ys := by
  have := vw_lin c xs ys zs n hx hy hz h n (Nat.le_refl _)
  rwa [List.take_of_length_le oM, List.take_of_length_le oM, List.take_of_length_le oM] at this
def red1 (v : Nat) : Nat := v % 1361129467683753853853498429727072845824 + 5 * (v / 1361129467683753853853498429727072845824)
theorem lowhigh_vw (v : Nat) (hv : v < 256 ^ 40) : vw (lowhigh v 40) = red1 v := by
  rw [vw_lin_all 5 (dig 32 40 (v % 1361129467683753853853498429727072845824)) (dig 32 40 (v / 1361129467683753853853498429727072845824)) (lowhigh v 40) 40 (dig_len _ _ _) (dig_len _ _ _) (lowhigh_len _ _) (fun j hj => lowhigh_atn v j hj), vw_dig _ _ _ oM, vw_dig _ _ _ oM]
  unfold red1
  rw [Nat.mod_eq_of_lt (a := v % _) (Nat.lt_of_lt_of_le (Nat.mod_lt _ oM) (by decide)), Nat.mod_eq_of_lt (a := v / _) (Nat.lt_of_le_of_lt (Nat.div_le_self _ _) hv)]
def redk (v : Nat) : Nat → Nat
  | 0 => v
  | k + 1 => red1 (redk v k)
theorem redk_zero (v : Nat) : redk v 0 = v := rfl
theorem redk_succ (v k : Nat) : redk v (k + 1) = red1 (redk v k) := rfl
theorem red1_mod (v : Nat) : red1 v % polyP = v % polyP := by
  have e : red1 v + polyP * (v / 1361129467683753853853498429727072845824) = v := by unfold red1; rw [polyP_eq]; omega
  conv => rhs; rw [← e, Nat.add_mul_mod_self_left]
theorem redk_mod (v : Nat) : ∀ k, redk v k % polyP = v % polyP
  | 0 => rfl
  | k + 1 => by rw [redk_succ, red1_mod, redk_mod v k]
theorem red1_le (v : Nat) : red1 v ≤ v := by unfold red1; omega
theorem redk_le (v : Nat) : ∀ k, redk v k ≤ v
  | 0 => Nat.le_refl _
  | k + 1 => Nat.le_trans (red1_le _) (redk_le v k)
theorem red1_lt1 (v : Nat) (h : v < 2 ^ 256) : red1 v < 2 ^ 174 := by
  unfold red1
  have e1 : (2 : Nat) ^ 256 = 115792089237316195423570985008687907853269984665640564039457584007913129639936 := rfl
  have e2 : (2 : Nat) ^ 174 = 23945242826029513411849172299223580994042798784118784 := rfl
  rw [e1] at h
  rw [e2]
  omega
theorem red1_lt2 (v : Nat) (h : v < 2 ^ 174) : red1 v < 1361129467683753853853498429727072845824 + 2 ^ 47 := by
  unfold red1
  have e2 : (2 : Nat) ^ 174 = 23945242826029513411849172299223580994042798784118784 := rfl
  have e3 : (2 : Nat) ^ 47 = 140737488355328 := rfl
  rw [e2] at h
  rw [e3]
  omega
theorem red1_lt3 (v : Nat) (h : v < 1361129467683753853853498429727072845824 + 2 ^ 47) : red1 v < 1361129467683753853853498429727072845824 := by
  unfold red1
  have e3 : (2 : Nat) ^ 47 = 140737488355328 := rfl
  rw [e3] at h
  omega
theorem redk_lt (v : Nat) (h : v < 2 ^ 256) : redk v 4 < 1361129467683753853853498429727072845824 :=
  Nat.lt_of_le_of_lt (red1_le _) (red1_lt3 _ (red1_lt2 _ (red1_lt1 _ h)))
theorem redk_lt40 (v k : Nat) (h : v < 2 ^ 256) : redk v k < 256 ^ 40 := by
  refine Nat.lt_of_le_of_lt (redk_le v k) (Nat.lt_of_lt_of_le h ?_)
  have e : (2 : Nat) ^ 256 = 256 ^ 32 := by
    have := Nat.pow_mul 2 8 32
    exact this
  rw [e]
  exact Nat.pow_le_pow_right oM oM
attribute [irreducible] cy cw redlow redhigh lowhigh red1 redk
end Go.Proofs.YtlplpmkdebemnaaGreat
namespace Go.Proofs.YtlplpmkdebemnaaGreat
open Bv Fw
theorem vw_add {k : Nat} (xs : List (BitVec k)) (i : Nat) (v : BitVec k) (h : i < xs.length) (hb : (ath xs i).toNat + v.toNat < 2 ^ k) : vw (xs.set i (ath xs i + v)) = vw xs + 256 ^ i * v.toNat := by
  have h1 := vw_set xs i (ath xs i + v) h
  rw [BitVec.toNat_add, Nat.mod_eq_of_lt hb, Nat.mul_add] at h1
  omega
def Bi {k : Nat} (i : Nat) (xs : List (BitVec k)) : Prop := ∀ j, (ath xs j).toNat < 256 ∨ (j < i ∧ (ath xs j).toNat < 512)
theorem bi_zero (n v : Nat) : Bi 0 (dig 32 n v) := fun j => .inl (dig_bd n v j)
theorem bi_step {xs : List (BitVec 32)} {i : Nat} (h : Bi i xs) (hi : i < xs.length) (v : BitVec 32) (hv : v.toNat < 256) : Bi (i + 1) (xs.set i (ath xs i + v)) := fun j => by
  rw [ath_set _ _ _ _ hi]
  split
  · next e =>
    subst e
    rcases h i with h1 | h1
    · rw [BitVec.toNat_add]; right; omega
    · omega
  · rcases h j with h1 | h1
    · exact .inl h1
    · exact .inr ⟨by omega, h1.2⟩
theorem bi_lt {xs : List (BitVec 32)} {i : Nat} (h : Bi i xs) : (ath xs i).toNat < 256 := by
  rcases h i with h1 | h1
  · exact h1
  · omega
theorem bi_bd {xs : List (BitVec 32)} {i : Nat} (h : Bi i xs) : Bd 512 xs := fun j => by rcases h j with h1 | h1 <;> omega
def Ad (A : Nat) (b : List (BitVec 8)) (i : Nat) (xs : List (BitVec 32)) : Prop := xs.length = 40 ∧ vw xs = A + vw (b.take i) ∧ Bi i xs
theorem ad_zero (A : Nat) (b : List (BitVec 8)) (hA : A < 256 ^ 40) : Ad A b 0 (dig 32 40 A) := ⟨dig_len _ _ _, by rw [vw_dig _ _ _ oM, Nat.mod_eq_of_lt hA, List.take_zero, vw_nil]; rfl, bi_zero _ _⟩
theorem ad_step {A : Nat} {b : List (BitVec 8)} {i : Nat} {xs : List (BitVec 32)} (h : Ad A b i xs) (hi : i < b.length) (h40 : i < 40) (c : BitVec 8) (hc : c = ath b i) : Ad A b (i + 1) (xs.set i (ath xs i + c.setWidth 32)) := by
  obtain ⟨h1, h2, h3⟩ := h
  have hcl := c.isLt
  have hw : (c.setWidth 32).toNat = c.toNat := by rw [BitVec.toNat_setWidth]; omega
  refine ⟨by rw [List.length_set, h1], ?_, bi_step h3 oM _ oM⟩
  have h4 := bi_lt h3
  rw [vw_add xs i _ oM oM, h2, hw, vw_take_succ b i hi, hc]
  omega
theorem ad_one {A : Nat} {b : List (BitVec 8)} {n : Nat} {xs : List (BitVec 32)} (h : Ad A b n xs) (hn : b.length = n) (h40 : n < 40) : (xs.set n (ath xs n + 1#32)).length = 40 ∧ vw (xs.set n (ath xs n + 1#32)) = A + pv b ∧ Bd 512 (xs.set n (ath xs n + 1#32)) := by
  obtain ⟨h1, h2, h3⟩ := h
  have e1 : (1#32).toNat = 1 := rfl
  have h4 := bi_lt h3
  refine ⟨by rw [List.length_set, h1], ?_, bi_bd (bi_step h3 oM _ oM)⟩
  rw [vw_add xs n _ oM oM, h2, e1, List.take_of_length_le oM]
  unfold pv
  rw [hn]; omega
def Mu (V R i k : Nat) (xs : List (BitVec 32)) : Prop := xs.length = 40 ∧ vw xs = V % 256 ^ i * R + V / 256 ^ i % 256 * (256 ^ i * (R % 256 ^ k)) ∧ Bd ((16 * i + k) * 65025 + 1) xs
theorem mu_zero (V R : Nat) : Mu V R 0 0 (List.replicate 40 0#32) := by
  refine ⟨by simp, ?_, fun j => ?_⟩
  · have : vw (List.replicate 40 0#32) = 0 := vw_rep0 40
    rw [this]; simp [Nat.mod_one]
  · have : ath (List.replicate 40 0#32) j = 0#32 := by
      unfold ath
      rw [List.getD_eq_getElem?_getD, List.getElem?_replicate]
      split <;> rfl
    rw [this]; simp
theorem mu_step {V R i k : Nat} {xs : List (BitVec 32)} (h : Mu V R i k xs) (hik : i + k < 40) (hi : i ≤ 18) (hk : k < 16) (x y : BitVec 32) (hx : x.toNat = V / 256 ^ i % 256) (hy : y.toNat = R / 256 ^ k % 256) : Mu V R i (k + 1) (xs.set (i + k) (ath xs (i + k) + x * y)) := by
  obtain ⟨h1, h2, h3⟩ := h
  have hxy : (x * y).toNat = x.toNat * y.toNat := by
    rw [BitVec.toNat_mul, Nat.mod_eq_of_lt]
    exact Nat.lt_of_le_of_lt (Nat.mul_le_mul (show x.toNat ≤ 255 by omega) (show y.toNat ≤ 255 by omega)) (by decide)
  have hle : x.toNat * y.toNat ≤ 65025 := Nat.mul_le_mul (show x.toNat ≤ 255 by omega) (show y.toNat ≤ 255 by omega)
  have h4 := h3 (i + k)
  have e32 : (2 : Nat) ^ 32 = 4294967296 := rfl
  refine ⟨by rw [List.length_set, h1], ?_, fun j => ?_⟩
  · rw [vw_add xs (i + k) _ oM (by rw [hxy]; omega), h2, hxy, hx, hy, mod_pow_succ R k, Nat.pow_add, Nat.mul_add, Nat.mul_add]
    have e : 256 ^ i * 256 ^ k * (V / 256 ^ i % 256 * (R / 256 ^ k % 256)) = V / 256 ^ i % 256 * (256 ^ i * (256 ^ k * (R / 256 ^ k % 256))) := by ac_rfl
    rw [e]; omega
  · rw [ath_set _ _ _ _ oM]
    split
    · next e => subst e; rw [BitVec.toNat_add, hxy]; omega
    · have h5 := h3 j; refine Nat.lt_of_lt_of_le h5 ?_; clear h5 hxy hle hx hy h2 h4 h3; omega
theorem mu_row {V R i : Nat} {xs : List (BitVec 32)} (h : Mu V R i 16 xs) (hR : R < 256 ^ 16) : Mu V R (i + 1) 0 xs := by
  obtain ⟨h1, h2, h3⟩ := h
  refine ⟨h1, ?_, fun j => by have := h3 j; omega⟩
  rw [h2, mod_pow_succ V i, Nat.mod_eq_of_lt hR]
  simp only [Nat.pow_zero, Nat.mod_one, Nat.mul_zero, Nat.add_zero]
  rw [Nat.add_mul]
  have e : 256 ^ i * (V / 256 ^ i % 256) * R = V / 256 ^ i % 256 * (256 ^ i * R) := by ac_rfl
  rw [e]
theorem mu_all {V R i : Nat} {xs : List (BitVec 32)} (h : Mu V R i 0 xs) (hi : i = 18) (hV : V < 256 ^ 18) : vw xs = V * R ∧ Bd 30000000 xs := by
  obtain ⟨h1, h2, h3⟩ := h
  refine ⟨?_, fun j => by have := h3 j; omega⟩
  rw [← hi] at hV
  rw [h2, Nat.mod_eq_of_lt hV, Nat.pow_zero, Nat.mod_one, Nat.mul_zero, Nat.mul_zero, Nat.add_zero]
theorem clampb_dig (key : List (BitVec 8)) (k : Nat) (h : k < 16) : (ath (clampb key) k).toNat = pr key / 256 ^ k % 256 := by
  have e := dig_vw (clampb key) 16 (clampb_len key)
  have h1 := dig_at_nat 8 16 (vw (clampb key)) k oM h
  rw [e] at h1
  unfold pr; exact h1
theorem pr_lt16 (key : List (BitVec 8)) : pr key < 256 ^ 16 := Nat.lt_of_lt_of_le (pr_lt key) (by decide)
theorem dig_add16 (x y : Nat) (hx : x < 256 ^ 16) (j : Nat) : (x + 256 ^ 16 * y) / 256 ^ j % 256 = if j < 16 then x / 256 ^ j % 256 else y / 256 ^ (j - 16) % 256 := by
  split
  · next h =>
    obtain ⟨d, hd⟩ : ∃ d, 16 = j + 1 + d := ⟨15 - j, by omega⟩
    rw [hd, Nat.pow_add, Nat.pow_succ, Nat.mul_assoc (256 ^ j), Nat.mul_assoc (256 ^ j), Nat.add_mul_div_left _ _ (Nat.pow_pos oM), Nat.mul_assoc, Nat.add_mul_mod_self_left]
  · next h =>
    obtain ⟨d, rfl⟩ : ∃ d, j = 16 + d := ⟨j - 16, by omega⟩
    rw [Nat.pow_add, ← Nat.div_div_eq_div_mul, Nat.add_mul_div_left _ _ (Nat.pow_pos oM), Nat.div_eq_of_lt hx, Nat.zero_add, Nat.add_sub_cancel_left]
theorem least_lo (A : Nat) (h : (ath (dig 32 40 (A + 5)) 16).toNat < 4) (hA : A < 1361129467683753853853498429727072845824) : A = A % polyP := by
  rw [dig_at_nat _ _ _ _ oM oM, pow_16] at h
  rw [polyP_eq]
  omega
theorem least_hi (A : Nat) (h : ¬ (ath (dig 32 40 (A + 5)) 16).toNat < 4) (hA : A < 1361129467683753853853498429727072845824) : (dig 32 40 (A + 5)).set 16 (ath (dig 32 40 (A + 5)) 16 - 4#32) = dig 32 40 (A % polyP) := by
  rw [dig_at_nat _ _ _ _ oM oM, pow_16] at h
  have e1 : A + 5 = (A % polyP) + 256 ^ 16 * 4 := by rw [polyP_eq, pow_16]; omega
  have e2 : A % polyP < 256 ^ 16 := by rw [polyP_eq, pow_16]; omega
  have e3 : A % polyP = A % polyP + 256 ^ 16 * 0 := by omega
  have h16 : ath (dig 32 40 (A + 5)) 16 = 4#32 := by
    rw [dig_at _ _ _ _ oM, e1, dig_add16 _ _ e2]; rfl
  refine set_of_at (by rw [dig_len, dig_len]) (by rw [dig_len]; omega) ?_ (fun j hj hne => ?_)
  · rw [h16, dig_at _ _ _ _ oM]
    conv => rhs; rw [e3, dig_add16 _ _ e2]
    rw [if_neg oM]; simp
  · rw [dig_len] at hj
    rw [dig_at _ _ _ _ hj, dig_at _ _ _ _ hj, e1, dig_add16 _ _ e2]
    conv => rhs; rw [e3, dig_add16 _ _ e2]
    split
    · rfl
    · obtain ⟨d, hd⟩ : ∃ d, j - 16 = d + 1 := ⟨j - 17, by omega⟩
      rw [hd, Nat.pow_succ, Nat.mul_comm, ← Nat.div_div_eq_div_mul]; simp
def prez (xs : List (BitVec 8)) (n j : Nat) : List (BitVec 8) := xs.take j ++ List.replicate (n - j) 0#8
theorem prez_zero (xs : List (BitVec 8)) (n : Nat) : List.replicate n 0#8 = prez xs n 0 := by simp [prez]
theorem prez_all (xs : List (BitVec 8)) (n : Nat) (h : xs.length = n) : prez xs n n = xs := by simp [prez, ← h]
theorem prez_len (xs : List (BitVec 8)) (n j : Nat) (h : xs.length = n) (hj : j ≤ n) : (prez xs n j).length = n := by simp [prez]; omega
theorem prez_set (xs : List (BitVec 8)) (n j : Nat) (h : xs.length = n) (hj : j < n) (v : BitVec 8) (hv : v = ath xs j) : (prez xs n j).set j v = prez xs n (j + 1) := by
  unfold prez
  have hl : (xs.take j).length = j := by rw [List.length_take]; omega
  rw [List.set_append_right _ _ oM, hl, Nat.sub_self, show n - j = (n - (j + 1)) + 1 by omega, List.replicate_succ, List.set_cons_zero, hv, take_succ_ath xs j oM]
  simp
theorem dig_byte (v j : Nat) (h : j < 16) : (ath (dig 32 40 v) j).setWidth 8 = ath (dig 8 16 v) j := by
  rw [dig_at _ _ _ _ oM, dig_at _ _ _ _ h]
  apply BitVec.eq_of_toNat_eq
  rw [BitVec.toNat_setWidth, BitVec.toNat_ofNat, BitVec.toNat_ofNat]
  omega
theorem ptag_of (key t : List (BitVec 8)) (A : Nat) (hA : A = pacc (pr key) t ((t.length + 15) / 16)) : dig 8 16 (A + ps key) = ptag key t := by rw [ptag_def, hA]
theorem ref_piece (V R A : Nat) (hA : A = redk (V * R) 4) (hV : V < 2 ^ 131) (hR : R < 2 ^ 124) : A < 1361129467683753853853498429727072845824 ∧ A % polyP = V * R % polyP := by
  subst hA
  refine ⟨redk_lt _ ?_, redk_mod _ _⟩
  have h : V * R < 2 ^ 131 * 2 ^ 124 := Nat.mul_lt_mul'' hV hR
  exact Nat.lt_trans h (by decide)
theorem pacc_next (r : Nat) (t : List (BitVec 8)) (k A V : Nat) (hA : A % polyP = pacc r t k) (hV : V = A + pv (pblk t k)) : V * r % polyP = pacc r t (k + 1) := by
  rw [pacc_succ, ← hA, hV, Nat.mul_mod]
  conv => rhs; rw [Nat.mul_mod, Nat.add_mod, Nat.mod_mod, ← Nat.add_mod]
attribute [irreducible] Ad Mu prez
end Go.Proofs.YtlplpmkdebemnaaGreat
