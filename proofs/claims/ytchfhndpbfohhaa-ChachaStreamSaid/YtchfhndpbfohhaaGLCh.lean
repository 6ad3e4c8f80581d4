/- The statements of layer 5 about bytes turned, walked by facts. -/
import Derived.Test.YtchfhndpbfohhaaGCha2
import Derived.Test.YtchfhndpbfohhaaGSpo
import Derived.Test.YtchfhndpbfohhaaProg
import Derived.Test.YtchfhndpbfohhaaFwU
namespace Go.Proofs.Ytchfhndpbfohhaa
set_option linter.unusedVariables false
set_option linter.unusedSimpArgs false
set_option linter.unnecessarySimpa false
open Go.RowKit Bv Fw

theorem qa_at : qa 286331153#32 16909060#32 2609737539#32 19088743#32 = 3928658676#32 := by kernel_rfl
theorem qb_at : qb 286331153#32 16909060#32 2609737539#32 19088743#32 = 3407673550#32 := by kernel_rfl
theorem qc_at : qc 286331153#32 16909060#32 2609737539#32 19088743#32 = 1166100270#32 := by kernel_rfl
theorem qd_at : qd 286331153#32 16909060#32 2609737539#32 19088743#32 = 1484899515#32 := by kernel_rfl
theorem cxor_zeros (key nonce : List (BitVec 8)) (ctr : BitVec 32) (n i : Nat) (h : i < n) : ath (cxor key nonce ctr (List.replicate n 0#8)) i = ath (cblock key (ctr + BitVec.ofNat 32 (i / 64)) nonce) (i % 64) := by
  have e : ath (List.replicate n 0#8) i = 0#8 := by
    unfold ath
    rw [List.getD_eq_getElem?_getD, List.getElem?_replicate]
    split <;> rfl
  rw [cxor_at _ _ _ _ _ (by simpa using h), e, BitVec.zero_xor]

set_option maxHeartbeats 4000000 in
theorem awake5_f  (w : World) (hO : HOK [] w)  : Calls Try.prog 34 [].toArray w (Ret (T := Unit) [] w (fun _ => True) (fun _ => (.bool true)) (fun _ => [])) := by
  have hF : Wid Fence.wide := wid_wide
  refine enter (c := _) Try.func34 rfl [] [] [] (by rw [Try.ntmps34]; rfl) (own_rds hO rfl) ?_
  rw [Try.ntmps34]
  refine T_re [] sn ?_
  refine T_he [] [] ⟨by decide, rfl⟩ ?_
  refine T_seq ?_
  refine T_reg hF rfl ?_
  refine L_op rfl (op_pr (pr_assign rfl rfl) rfl rfl ?_)
  refine L_nil ?_
  refine T_re [] sn ?_
  refine T_he [] [] ⟨by decide, rfl⟩ ?_
  refine T_seq ?_
  refine T_reg hF rfl ?_
  refine L_op rfl (op_call0 (vs := [(b32 (286331153#32)), (b32 (16909060#32)), (b32 (2609737539#32)), (b32 (19088743#32))]) (cap := []) (fun w hw => quarter_f (286331153#32) (16909060#32) (2609737539#32) (19088743#32) w (hok_nil w) ) (enters_of Try.func32 (by kernel_rfl) rfl) rfl rfl rfl rfl rfl (fun t1 q2 => ?_))
  refine L_op rfl (op_pr (pr_move rfl rfl) rfl rfl ?_)
  refine L_op rfl (op_pr (pr_ext (vs := [(b32 (qa (286331153#32) (16909060#32) (2609737539#32) (19088743#32))), (b32 (qb (286331153#32) (16909060#32) (2609737539#32) (19088743#32))), (b32 (qc (286331153#32) (16909060#32) (2609737539#32) (19088743#32))), (b32 (qd (286331153#32) (16909060#32) (2609737539#32) (19088743#32)))]) rfl rfl rfl) rfl rfl ?_)
  refine T_slot 7 (b32 (qa (286331153#32) (16909060#32) (2609737539#32) (19088743#32))) (b32 (3928658676#32)) rfl (by rw [qa_at]) ?_
  refine L_op rfl (op_pr (pr_ext (vs := [(b32 (qa (286331153#32) (16909060#32) (2609737539#32) (19088743#32))), (b32 (qb (286331153#32) (16909060#32) (2609737539#32) (19088743#32))), (b32 (qc (286331153#32) (16909060#32) (2609737539#32) (19088743#32))), (b32 (qd (286331153#32) (16909060#32) (2609737539#32) (19088743#32)))]) rfl rfl rfl) rfl rfl ?_)
  refine T_slot 8 (b32 (qb (286331153#32) (16909060#32) (2609737539#32) (19088743#32))) (b32 (3407673550#32)) rfl (by rw [qb_at]) ?_
  refine L_op rfl (op_pr (pr_ext (vs := [(b32 (qa (286331153#32) (16909060#32) (2609737539#32) (19088743#32))), (b32 (qb (286331153#32) (16909060#32) (2609737539#32) (19088743#32))), (b32 (qc (286331153#32) (16909060#32) (2609737539#32) (19088743#32))), (b32 (qd (286331153#32) (16909060#32) (2609737539#32) (19088743#32)))]) rfl rfl rfl) rfl rfl ?_)
  refine T_slot 9 (b32 (qc (286331153#32) (16909060#32) (2609737539#32) (19088743#32))) (b32 (1166100270#32)) rfl (by rw [qc_at]) ?_
  refine L_op rfl (op_pr (pr_ext (vs := [(b32 (qa (286331153#32) (16909060#32) (2609737539#32) (19088743#32))), (b32 (qb (286331153#32) (16909060#32) (2609737539#32) (19088743#32))), (b32 (qc (286331153#32) (16909060#32) (2609737539#32) (19088743#32))), (b32 (qd (286331153#32) (16909060#32) (2609737539#32) (19088743#32)))]) rfl rfl rfl) rfl rfl ?_)
  refine T_slot 10 (b32 (qd (286331153#32) (16909060#32) (2609737539#32) (19088743#32))) (b32 (1484899515#32)) rfl (by rw [qd_at]) ?_
  refine L_op rfl (op_pr (pr_assign rfl rfl) rfl rfl ?_)
  refine L_op rfl (op_pr (pr_assign rfl rfl) rfl rfl ?_)
  refine L_op rfl (op_pr (pr_assign rfl rfl) rfl rfl ?_)
  refine L_op rfl (op_pr (pr_assign rfl rfl) rfl rfl ?_)
  refine L_nil ?_
  refine T_re [(1, (b32 (3928658676#32))), (2, (b32 (3407673550#32))), (3, (b32 (1166100270#32))), (4, (b32 (1484899515#32)))] (sc rfl (sc rfl (sc rfl (sc rfl sn)))) ?_
  refine T_he [] [] ⟨by decide, rfl⟩ ?_
  refine T_seq ?_
  refine T_reg hF rfl ?_
  refine L_op rfl (op_pr (pr_move rfl rfl) rfl rfl ?_)
  refine L_op rfl (op_pr (pr_cmp (bo := .eql) (n32_beq (3928658676#32) (3928658676#32)) rfl rfl rfl rfl) rfl rfl ?_)
  refine L_op rfl (op_pr (pr_move rfl rfl) rfl rfl ?_)
  refine T_slot 13 (.bool (3928658676#32 == 3928658676#32)) (.bool true) rfl (congrArg _ (by rfl)) ?_
  refine L_op rfl (op_pr (pr_move rfl rfl) rfl rfl ?_)
  refine L_op rfl (op_pr (pr_cmp (bo := .eql) (n32_beq (3407673550#32) (3407673550#32)) rfl rfl rfl rfl) rfl rfl ?_)
  refine L_op rfl (op_pr (pr_pick_t rfl rfl rfl) rfl rfl ?_)
  refine L_op rfl (op_pr (pr_move rfl rfl) rfl rfl ?_)
  refine T_slot 17 (.bool (3407673550#32 == 3407673550#32)) (.bool true) rfl (congrArg _ (by rfl)) ?_
  refine L_op rfl (op_pr (pr_move rfl rfl) rfl rfl ?_)
  refine L_op rfl (op_pr (pr_cmp (bo := .eql) (n32_beq (1166100270#32) (1166100270#32)) rfl rfl rfl rfl) rfl rfl ?_)
  refine L_op rfl (op_pr (pr_pick_t rfl rfl rfl) rfl rfl ?_)
  refine L_op rfl (op_pr (pr_move rfl rfl) rfl rfl ?_)
  refine T_slot 21 (.bool (1166100270#32 == 1166100270#32)) (.bool true) rfl (congrArg _ (by rfl)) ?_
  refine L_op rfl (op_pr (pr_move rfl rfl) rfl rfl ?_)
  refine L_op rfl (op_pr (pr_cmp (bo := .eql) (n32_beq (1484899515#32) (1484899515#32)) rfl rfl rfl rfl) rfl rfl ?_)
  refine L_op rfl (op_pr (pr_pick_t rfl rfl rfl) rfl rfl ?_)
  refine L_op rfl (op_pr (pr_assign rfl rfl) rfl rfl ?_)
  refine L_nil ?_
  refine T_re [(0, (.bool (1484899515#32 == 1484899515#32)))] (sc rfl sn) ?_
  refine T_he [] [] ⟨by decide, rfl⟩ ?_
  refine T_ret ?_
  refine T_slot 0 (.bool (1484899515#32 == 1484899515#32)) (.bool true) rfl (by rfl) ?_
  exact T_fin () (by first | trivial | omega | (simp; done)) (res1 rfl rfl) [] ⟨by decide, rfl⟩ rfl
set_option maxRecDepth 100000 in
set_option maxHeartbeats 4000000 in
theorem chachaXors_f (key : List (BitVec 8)) (nonce : List (BitVec 8)) (ctr : BitVec 32) (xs : List (BitVec 8)) (A : Option Addr) (n : Nat) (c : Nat) (w : World) (hO : HOK [.rd A 1 n c (xs.map b8)] w) (hk : key.length = 32) (hn : nonce.length = 12) (hx : xs.length = n) : Calls Try.prog 11 [(.agg (key.map b8).toArray), (.agg (nonce.map b8).toArray), (b32 ctr), (.slice A n c)].toArray w (Ret (T := Unit) [] w (fun _ => True) (fun _ => (.bool true)) (fun _ => [])) := by
  have hcl := cxor_len key nonce ctr xs
  have hF : Wid Fence.wide := wid_wide
  refine enter (c := _) Try.func11 rfl [] [(.agg (key.map b8).toArray), (.agg (nonce.map b8).toArray), (b32 ctr), (.slice A n c)] [.rd A 1 n c (xs.map b8)] (by rw [Try.ntmps11]; rfl) (own_rds hO rfl) ?_
  rw [Try.ntmps11]
  refine T_re [(0, (.agg (key.map b8).toArray)), (1, (.agg (nonce.map b8).toArray)), (2, (b32 ctr)), (3, (.slice A n c))] (sc rfl (sc rfl (sc rfl (sc rfl sn)))) ?_
  refine T_he [0] [.rd A 1 n c (xs.map b8)] ⟨by decide, rfl⟩ ?_
  refine T_seq ?_
  refine T_reg hF rfl ?_
  refine L_op rfl (op_box (zs := (key.map b8)) rfl rfl rfl rfl rfl (fun g1 => ?_))
  refine L_op rfl (op_box (zs := (nonce.map b8)) rfl rfl rfl rfl rfl (fun g2 => ?_))
  refine L_op rfl (op_pr (pr_assign rfl rfl) rfl rfl ?_)
  refine L_nil ?_
  refine T_re [(2, (b32 ctr)), (3, (.slice A n c)), (4, (.pointer (some ⟨g1, 0, none⟩))), (5, (.pointer (some ⟨g2, 0, none⟩)))] (sc rfl (sc rfl (sc rfl (sc rfl sn)))) ?_
  refine T_he [0, 1, 2] [.blk g2 50 (nonce.map b8), .blk g1 49 (key.map b8), .rd A 1 n c (xs.map b8)] ⟨by decide, rfl⟩ ?_
  refine T_seq ?_
  refine T_seq ?_
  refine T_reg hF rfl ?_
  refine L_op rfl (op_pr (pr_move rfl rfl) rfl rfl ?_)
  refine L_op rfl (op_pr (pr_len_sl Try.underlying32 rfl rfl) rfl rfl ?_)
  refine L_op rfl (op_pr (pr_cmp (bo := .gtr) (nc_lt (a := 2000) (b := n)) rfl rfl rfl rfl) rfl rfl ?_)
  refine L_nil ?_
  refine T_re [(2, (b32 ctr)), (3, (.slice A n c)), (4, (.pointer (some ⟨g1, 0, none⟩))), (5, (.pointer (some ⟨g2, 0, none⟩))), (13, (.bool (decide (2000 < n))))] (sc rfl (sc rfl (sc rfl (sc rfl (sc rfl sn))))) ?_
  refine T_he [0, 1, 2] [.blk g2 50 (nonce.map b8), .blk g1 49 (key.map b8), .rd A 1 n c (xs.map b8)] ⟨by decide, rfl⟩ ?_
  refine T_cond (decide (2000 < n)) rfl (fun hc_3 => ?_) (fun hc_3 => ?_)
  · skip
    have hc_3 := of_decide_eq_true hc_3
    refine T_seq ?_
    refine T_reg hF rfl ?_
    refine L_op rfl (op_call0 (vs := []) (cap := []) (fun w hw => awake5_f  w (hok_nil w) ) (enters_of Try.func34 (by kernel_rfl) rfl) rfl rfl rfl rfl rfl (fun t4 q5 => ?_))
    refine L_op rfl (op_pr (pr_assign rfl rfl) rfl rfl ?_)
    refine L_nil ?_
    refine T_re [(8, (.bool true))] (sc rfl sn) ?_
    refine T_he [0, 1, 2] [.blk g2 50 (nonce.map b8), .blk g1 49 (key.map b8), .rd A 1 n c (xs.map b8)] ⟨by decide, rfl⟩ ?_
    refine T_ret ?_
    exact T_fin () (by first | trivial | omega | (simp; done)) (res1 rfl rfl) [] ⟨by decide, rfl⟩ rfl
  · skip
    have hc_3 := of_decide_eq_false hc_3
    refine T_skip ?_
    refine T_seq ?_
    refine T_reg hF rfl ?_
    refine L_op rfl (op_pr (pr_move rfl rfl) rfl rfl ?_)
    refine L_op rfl (op_call0 (vs := [(.slice A n c), (b8 (71#8))]) (cap := []) (fun w hw => own_f xs (71#8) A n c w (hok_cons ((src_rd 2 rfl) w hw) (hok_nil w)) sd sd) (enters_of Try.func25 (by kernel_rfl) rfl) rfl rfl rfl rfl rfl (fun t6 q7 => ?_))
    obtain ⟨B8, d9⟩ := t6
    have q7 : n + 3 ≤ d9 := q7
    refine L_op rfl (op_pr (pr_assign rfl rfl) rfl rfl ?_)
    refine L_nil ?_
    refine T_re [(2, (b32 ctr)), (3, (.slice A n c)), (4, (.pointer (some ⟨g1, 0, none⟩))), (5, (.pointer (some ⟨g2, 0, none⟩))), (9, (.slice B8 n d9))] (sc rfl (sc rfl (sc rfl (sc rfl (sc rfl sn))))) ?_
    refine T_he [0, 1, 2, 3, 4] [.old B8 1 (n + 3) d9 ((xs ++ [(71#8), (71#8), (71#8)]).map b8), .old B8 1 n d9 (xs.map b8), .blk g2 50 (nonce.map b8), .blk g1 49 (key.map b8), .rd A 1 n c (xs.map b8)] ⟨by decide, rfl⟩ ?_
    refine T_seq ?_
    refine T_reg hF rfl ?_
    refine L_op rfl (op_ld (ld_agg (ds := (key.map b8)) 3 rfl agg_all Try.underlying49 rfl (by rw [show ((key.map b8)).length = 32 from sd]; kernel_rfl) rfl rfl) rfl rfl ?_)
    refine L_op rfl (op_ld (ld_agg (ds := (nonce.map b8)) 2 rfl agg_all Try.underlying50 rfl (by rw [show ((nonce.map b8)).length = 12 from sd]; kernel_rfl) rfl rfl) rfl rfl ?_)
    refine L_op rfl (op_pr (pr_move rfl rfl) rfl rfl ?_)
    refine L_op rfl (op_pr (pr_move rfl rfl) rfl rfl ?_)
    refine L_op rfl (op_call0 (vs := [(.agg (key.map b8).toArray), (.agg (nonce.map b8).toArray), (b32 ctr), (.slice B8 n d9)]) (cap := []) (fun w hw => xor_f key nonce ctr xs B8 n d9 w (hok_cons ((src_old 1 rfl) w hw) (hok_nil w)) (by first | assumption | exact sd) (by first | assumption | exact sd) (by first | assumption | omega | (simp; done) | (simp; omega)) sd) (enters_of Try.func40 (by kernel_rfl) rfl) rfl rfl rfl rfl rfl (fun t10 q11 => ?_))
    obtain ⟨B12, d13⟩ := t10
    refine L_op rfl (op_pr (pr_assign rfl rfl) rfl rfl ?_)
    refine L_nil ?_
    refine T_re [(2, (b32 ctr)), (3, (.slice A n c)), (4, (.pointer (some ⟨g1, 0, none⟩))), (5, (.pointer (some ⟨g2, 0, none⟩))), (9, (.slice B8 n d9)), (10, (.slice B12 n d13))] (sc rfl (sc rfl (sc rfl (sc rfl (sc rfl (sc rfl sn)))))) ?_
    refine T_he [0, 1, 2, 3, 4, 5] [.row (.slice B12 n d13) 5 1 n ((cxor key nonce ctr xs).map b8), .old B8 1 (n + 3) d9 ((xs ++ [(71#8), (71#8), (71#8)]).map b8), .old B8 1 n d9 (xs.map b8), .blk g2 50 (nonce.map b8), .blk g1 49 (key.map b8), .rd A 1 n c (xs.map b8)] ⟨by decide, rfl⟩ ?_
    refine T_seq ?_
    refine T_seq ?_
    refine T_reg hF rfl ?_
    refine L_op rfl (op_call0 (vs := []) (cap := []) (fun w hw => awake5_f  w (hok_nil w) ) (enters_of Try.func34 (by kernel_rfl) rfl) rfl rfl rfl rfl rfl (fun t14 q15 => ?_))
    refine L_op rfl (op_pr (pr_un (v := .bool false) rfl rfl rfl) rfl rfl ?_)
    refine L_op rfl (op_pr (pr_move rfl rfl) rfl rfl ?_)
    refine L_op rfl (op_pr (pr_move rfl rfl) rfl rfl ?_)
    refine L_op rfl (op_ld (ld_agg (ds := (key.map b8)) 4 rfl agg_all Try.underlying49 rfl (by rw [show ((key.map b8)).length = 32 from sd]; kernel_rfl) rfl rfl) rfl rfl ?_)
    refine L_op rfl (op_ld (ld_agg (ds := (nonce.map b8)) 3 rfl agg_all Try.underlying50 rfl (by rw [show ((nonce.map b8)).length = 12 from sd]; kernel_rfl) rfl rfl) rfl rfl ?_)
    refine L_op rfl (op_pr (pr_move rfl rfl) rfl rfl ?_)
    refine L_op rfl (op_pr (pr_move rfl rfl) rfl rfl ?_)
    refine L_op rfl (op_call0 (vs := [(.agg (key.map b8).toArray), (.agg (nonce.map b8).toArray), (b32 ctr), (.slice A n c)]) (cap := []) (fun w hw => rxor_f key nonce ctr xs A n c w (hok_cons ((src_rd 5 rfl) w hw) (hok_nil w)) (by first | assumption | exact sd) (by first | assumption | exact sd) (by first | assumption | omega | (simp; done) | (simp; omega)) sd) (enters_of Try.func41 (by kernel_rfl) rfl) rfl rfl rfl rfl rfl (fun t16 q17 => ?_))
    obtain ⟨B18, d19⟩ := t16
    refine L_op rfl (op_call0 (vs := [(.slice B12 n d13), (.slice B18 n d19)]) (cap := []) (fun w hw => bytes_f (cxor key nonce ctr xs) (cxor key nonce ctr xs) B12 n d13 B18 n d19 w (hok_cons ((src_row 1 rfl) w hw) (hok_cons ((src_row 0 rfl) w hw) (hok_nil w))) ) (enters_of Try.func28 (by kernel_rfl) rfl) rfl rfl rfl rfl rfl (fun t20 q21 => ?_))
    refine L_op rfl (op_pr (pr_un rfl rfl rfl) rfl rfl ?_)
    refine L_op rfl (op_pr (pr_pick_f rfl rfl rfl) rfl rfl ?_)
    refine L_nil ?_
    refine T_re [(3, (.slice A n c)), (9, (.slice B8 n d9)), (10, (.slice B12 n d13)), (33, (.bool (!(decide ((cxor key nonce ctr xs) = (cxor key nonce ctr xs))))))] (sc rfl (sc rfl (sc rfl (sc rfl sn)))) ?_
    refine T_he [0, 1, 2, 3, 4, 5, 6] [.row (.slice B18 n d19) 5 1 n ((cxor key nonce ctr xs).map b8), .row (.slice B12 n d13) 5 1 n ((cxor key nonce ctr xs).map b8), .old B8 1 (n + 3) d9 ((xs ++ [(71#8), (71#8), (71#8)]).map b8), .old B8 1 n d9 (xs.map b8), .blk g2 50 (nonce.map b8), .blk g1 49 (key.map b8), .rd A 1 n c (xs.map b8)] ⟨by decide, rfl⟩ ?_
    refine T_cond_no (t := !(decide ((cxor key nonce ctr xs) = (cxor key nonce ctr xs)))) rfl (by simp) ?_
    refine T_skip ?_
    refine T_seq ?_
    refine T_reg hF rfl ?_
    refine L_op rfl (op_pr (pr_move rfl rfl) rfl rfl ?_)
    refine L_op rfl (op_call1 (vs := [(.slice B12 n d13)]) (cap := []) 1 rfl (fun w hw => spoil_f (cxor key nonce ctr xs) B12 n d13 w (hw _ (List.mem_of_getElem? (i := 1) rfl)) sd sd) (enters_of Try.func30 (by kernel_rfl) rfl) rfl rfl rfl rfl rfl (fun t22 q23 => ?_))
    refine L_nil ?_
    refine T_re [(3, (.slice A n c)), (9, (.slice B8 n d9))] (sc rfl (sc rfl sn)) ?_
    refine T_he [0, 1, 2, 3, 4, 5] [.row (.slice B18 n d19) 5 1 n ((cxor key nonce ctr xs).map b8), .old B8 1 (n + 3) d9 ((xs ++ [(71#8), (71#8), (71#8)]).map b8), .old B8 1 n d9 (xs.map b8), .blk g2 50 (nonce.map b8), .blk g1 49 (key.map b8), .rd A 1 n c (xs.map b8)] ⟨by decide, rfl⟩ ?_
    refine T_seq ?_
    refine T_reg hF rfl ?_
    refine L_op rfl (op_pr (pr_move rfl rfl) rfl rfl ?_)
    refine L_op rfl (op_pr (pr_move rfl rfl) rfl rfl ?_)
    refine L_op rfl (op_call0 (vs := [(.slice B8 n d9), (.slice A n c), (b8 (71#8))]) (cap := []) (fun w hw => kept_f xs (71#8) B8 n d9 A c w (hok_cons ((src_old 2 rfl) w hw) (hok_cons ((src_old 1 rfl) w hw) (hok_cons ((src_rd 5 rfl) w hw) (hok_nil w)))) sd sd sd) (enters_of Try.func31 (by kernel_rfl) rfl) rfl rfl rfl rfl rfl (fun t24 q25 => ?_))
    refine L_op rfl (op_pr (pr_assign rfl rfl) rfl rfl ?_)
    refine L_nil ?_
    refine T_re [(8, (.bool true))] (sc rfl sn) ?_
    refine T_he [0, 1, 2, 3, 4, 5] [.row (.slice B18 n d19) 5 1 n ((cxor key nonce ctr xs).map b8), .old B8 1 (n + 3) d9 ((xs ++ [(71#8), (71#8), (71#8)]).map b8), .old B8 1 n d9 (xs.map b8), .blk g2 50 (nonce.map b8), .blk g1 49 (key.map b8), .rd A 1 n c (xs.map b8)] ⟨by decide, rfl⟩ ?_
    refine T_ret ?_
    exact T_fin () (by first | trivial | omega | (simp; done)) (res1 rfl rfl) [] ⟨by decide, rfl⟩ rfl
set_option maxRecDepth 100000 in
set_option maxHeartbeats 4000000 in
theorem chachaBack_f (key : List (BitVec 8)) (nonce : List (BitVec 8)) (ctr : BitVec 32) (xs : List (BitVec 8)) (A : Option Addr) (n : Nat) (c : Nat) (z : Int) (w : World) (hO : HOK [.rd A 1 n c (xs.map b8)] w) (hk : key.length = 32) (hn : nonce.length = 12) (hx : xs.length = n) : Calls Try.prog 12 [(.agg (key.map b8).toArray), (.agg (nonce.map b8).toArray), (b32 ctr), (.slice A n c), (.int .i64 z)].toArray w (Ret (T := Unit) [] w (fun _ => True) (fun _ => (.bool true)) (fun _ => [])) := by
  have hcl := cxor_len key nonce ctr xs
  have hcl2 := cxor_len key nonce ctr (cxor key nonce ctr xs)
  obtain ⟨kk, hkk⟩ : ∃ x : Nat, (BitVec.ofInt 64 z).toNat % (n / 64 + 1) = x := ⟨_, rfl⟩
  have hkl : kk ≤ n / 64 := by have := Nat.mod_lt ((BitVec.ofInt 64 z).toNat) (show 0 < n / 64 + 1 by omega); omega
  have hcl3 := cxor_len key nonce (ctr + BitVec.ofNat 32 kk) (List.drop (64 * kk) xs)
  have hF : Wid Fence.wide := wid_wide
  refine enter (c := _) Try.func12 rfl [] [(.agg (key.map b8).toArray), (.agg (nonce.map b8).toArray), (b32 ctr), (.slice A n c), (.int .i64 z)] [.rd A 1 n c (xs.map b8)] (by rw [Try.ntmps12]; rfl) (own_rds hO rfl) ?_
  rw [Try.ntmps12]
  refine T_re [(0, (.agg (key.map b8).toArray)), (1, (.agg (nonce.map b8).toArray)), (2, (b32 ctr)), (3, (.slice A n c)), (4, (.int .i64 z))] (sc rfl (sc rfl (sc rfl (sc rfl (sc rfl sn))))) ?_
  refine T_he [0] [.rd A 1 n c (xs.map b8)] ⟨by decide, rfl⟩ ?_
  refine T_seq ?_
  refine T_reg hF rfl ?_
  refine L_op rfl (op_box (zs := (key.map b8)) rfl rfl rfl rfl rfl (fun g1 => ?_))
  refine L_op rfl (op_box (zs := (nonce.map b8)) rfl rfl rfl rfl rfl (fun g2 => ?_))
  refine L_op rfl (op_pr (pr_assign rfl rfl) rfl rfl ?_)
  refine L_nil ?_
  refine T_re [(2, (b32 ctr)), (3, (.slice A n c)), (4, (.int .i64 z)), (5, (.pointer (some ⟨g1, 0, none⟩))), (6, (.pointer (some ⟨g2, 0, none⟩)))] (sc rfl (sc rfl (sc rfl (sc rfl (sc rfl sn))))) ?_
  refine T_he [0, 1, 2] [.blk g2 50 (nonce.map b8), .blk g1 49 (key.map b8), .rd A 1 n c (xs.map b8)] ⟨by decide, rfl⟩ ?_
  refine T_seq ?_
  refine T_seq ?_
  refine T_reg hF rfl ?_
  refine L_op rfl (op_pr (pr_move rfl rfl) rfl rfl ?_)
  refine L_op rfl (op_pr (pr_len_sl Try.underlying32 rfl rfl) rfl rfl ?_)
  refine L_op rfl (op_pr (pr_cmp (bo := .gtr) (nc_lt (a := 2000) (b := n)) rfl rfl rfl rfl) rfl rfl ?_)
  refine L_nil ?_
  refine T_re [(2, (b32 ctr)), (3, (.slice A n c)), (4, (.int .i64 z)), (5, (.pointer (some ⟨g1, 0, none⟩))), (6, (.pointer (some ⟨g2, 0, none⟩))), (15, (.bool (decide (2000 < n))))] (sc rfl (sc rfl (sc rfl (sc rfl (sc rfl (sc rfl sn)))))) ?_
  refine T_he [0, 1, 2] [.blk g2 50 (nonce.map b8), .blk g1 49 (key.map b8), .rd A 1 n c (xs.map b8)] ⟨by decide, rfl⟩ ?_
  refine T_cond (decide (2000 < n)) rfl (fun hc_3 => ?_) (fun hc_3 => ?_)
  · skip
    have hc_3 := of_decide_eq_true hc_3
    refine T_seq ?_
    refine T_reg hF rfl ?_
    refine L_op rfl (op_call0 (vs := []) (cap := []) (fun w hw => awake5_f  w (hok_nil w) ) (enters_of Try.func34 (by kernel_rfl) rfl) rfl rfl rfl rfl rfl (fun t4 q5 => ?_))
    refine L_op rfl (op_pr (pr_assign rfl rfl) rfl rfl ?_)
    refine L_nil ?_
    refine T_re [(10, (.bool true))] (sc rfl sn) ?_
    refine T_he [0, 1, 2] [.blk g2 50 (nonce.map b8), .blk g1 49 (key.map b8), .rd A 1 n c (xs.map b8)] ⟨by decide, rfl⟩ ?_
    refine T_ret ?_
    exact T_fin () (by first | trivial | omega | (simp; done)) (res1 rfl rfl) [] ⟨by decide, rfl⟩ rfl
  · skip
    have hc_3 := of_decide_eq_false hc_3
    refine T_skip ?_
    refine T_seq ?_
    refine T_reg hF rfl ?_
    refine L_op rfl (op_ld (ld_agg (ds := (key.map b8)) 1 rfl agg_all Try.underlying49 rfl (by rw [show ((key.map b8)).length = 32 from sd]; kernel_rfl) rfl rfl) rfl rfl ?_)
    refine L_op rfl (op_ld (ld_agg (ds := (nonce.map b8)) 0 rfl agg_all Try.underlying50 rfl (by rw [show ((nonce.map b8)).length = 12 from sd]; kernel_rfl) rfl rfl) rfl rfl ?_)
    refine L_op rfl (op_pr (pr_move rfl rfl) rfl rfl ?_)
    refine L_op rfl (op_pr (pr_move rfl rfl) rfl rfl ?_)
    refine L_op rfl (op_call0 (vs := [(.agg (key.map b8).toArray), (.agg (nonce.map b8).toArray), (b32 ctr), (.slice A n c)]) (cap := []) (fun w hw => xor_f key nonce ctr xs A n c w (hok_cons ((src_rd 2 rfl) w hw) (hok_nil w)) (by first | assumption | exact sd) (by first | assumption | exact sd) (by first | assumption | omega | (simp; done) | (simp; omega)) sd) (enters_of Try.func40 (by kernel_rfl) rfl) rfl rfl rfl rfl rfl (fun t6 q7 => ?_))
    obtain ⟨B8, d9⟩ := t6
    refine T_old 0 rfl ?_
    refine T_tord 0 rfl ?_
    refine L_op rfl (op_pr (pr_assign rfl rfl) rfl rfl ?_)
    refine L_nil ?_
    refine T_re [(2, (b32 ctr)), (3, (.slice A n c)), (4, (.int .i64 z)), (5, (.pointer (some ⟨g1, 0, none⟩))), (6, (.pointer (some ⟨g2, 0, none⟩))), (11, (.slice B8 n d9))] (sc rfl (sc rfl (sc rfl (sc rfl (sc rfl (sc rfl sn)))))) ?_
    refine T_he [0, 1, 2, 3] [.rd B8 1 n d9 ((cxor key nonce ctr xs).map b8), .blk g2 50 (nonce.map b8), .blk g1 49 (key.map b8), .rd A 1 n c (xs.map b8)] ⟨by decide, rfl⟩ ?_
    refine T_seq ?_
    refine T_reg hF rfl ?_
    refine L_op rfl (op_pr (pr_move rfl rfl) rfl rfl ?_)
    refine L_op rfl (op_pr (pr_cv (zc_u64 z) Try.underlying3 Try.underlying34 rfl rfl) rfl rfl ?_)
    refine L_op rfl (op_pr (pr_move rfl rfl) rfl rfl ?_)
    refine L_op rfl (op_pr (pr_len_sl Try.underlying32 rfl rfl) rfl rfl ?_)
    refine L_op rfl (op_pr (pr_quo (a := n) (b := 64) sd sd rfl rfl rfl) rfl rfl ?_)
    refine L_op rfl (op_pr (pr_add (na_i64 (a := n / 64) (b := 1) sd) rfl rfl rfl) rfl rfl ?_)
    refine L_op rfl (op_pr (pr_cv (ni_u64 (a := n / 64 + 1) sd) Try.underlying3 Try.underlying34 rfl rfl) rfl rfl ?_)
    refine L_op rfl (op_pr (pr_rem (a := (BitVec.ofInt 64 z).toNat) (b := n / 64 + 1) sd rfl rfl rfl) rfl rfl ?_)
    refine L_op rfl (op_pr (pr_cv (ni_i64 (a := ((BitVec.ofInt 64 z).toNat) % (n / 64 + 1)) sd) Try.underlying34 Try.underlying3 rfl rfl) rfl rfl ?_)
    refine T_slot 30 (.int .i64 ((((BitVec.ofInt 64 z).toNat) % (n / 64 + 1) : Nat) : Int)) (.int .i64 ((kk : Nat) : Int)) rfl (by rw [hkk]) ?_
    refine L_op rfl (op_pr (pr_assign rfl rfl) rfl rfl ?_)
    refine L_nil ?_
    refine T_re [(2, (b32 ctr)), (3, (.slice A n c)), (5, (.pointer (some ⟨g1, 0, none⟩))), (6, (.pointer (some ⟨g2, 0, none⟩))), (11, (.slice B8 n d9)), (12, (.int .i64 ((kk : Nat) : Int)))] (sc rfl (sc rfl (sc rfl (sc rfl (sc rfl (sc rfl sn)))))) ?_
    refine T_he [0, 1, 2, 3] [.rd B8 1 n d9 ((cxor key nonce ctr xs).map b8), .blk g2 50 (nonce.map b8), .blk g1 49 (key.map b8), .rd A 1 n c (xs.map b8)] ⟨by decide, rfl⟩ ?_
    refine T_seq ?_
    refine T_regD [.rd B8 1 n d9 ((cxor key nonce ctr xs).map b8), .blk g2 50 (nonce.map b8), .blk g1 49 (key.map b8), .rd A 1 n c (xs.map b8)] 36 36 #[false, false, false, false, false, false, false, false, false, false, false, false, false, false, false, false, false, false, false, false, false, false, false, false, false, false, false, false, false, false, false, false, false, false, false, false] hF (by kernel_rfl) (by kernel_rfl) ?_
    refine D_one 0 _ rfl (by kernel_rfl) rfl (op_call0 (vs := []) (cap := []) (fun w hw => awake5_f  w (hok_nil w) ) (enters_of Try.func34 (by kernel_rfl) rfl) rfl rfl rfl rfl rfl (fun t10 q11 => ?_))
    refine D_on [0, 1, 2, 3] rfl ?_
    refine D_pure (i := 1) [0, 1, 2, 3] rfl (by kernel_rfl) rfl (pr_move rfl rfl) (.inr rfl) rfl rfl ?_
    refine D_pure (i := 4) [0, 1, 2, 3] rfl (by kernel_rfl) rfl (pr_move rfl rfl) (.inr rfl) rfl rfl ?_
    refine D_pure (i := 5) [0, 1, 2, 3] rfl (by kernel_rfl) rfl (pr_move rfl rfl) (.inr rfl) rfl rfl ?_
    refine D_pure (i := 7) [0, 1, 2, 3] rfl (by kernel_rfl) rfl (pr_move rfl rfl) (.inr rfl) rfl rfl ?_
    refine D_take (i := 2) [0, 1, 2, 3] rfl (by kernel_rfl) rfl (ld_agg (ds := (key.map b8)) 2 rfl agg_all Try.underlying49 rfl (by rw [show ((key.map b8)).length = 32 from sd]; kernel_rfl) rfl rfl) rfl rfl rfl ?_
    refine D_take (i := 3) [0, 1, 2, 3] rfl (by kernel_rfl) rfl (ld_agg (ds := (nonce.map b8)) 1 rfl agg_all Try.underlying50 rfl (by rw [show ((nonce.map b8)).length = 12 from sd]; kernel_rfl) rfl rfl) rfl rfl rfl ?_
    refine D_one 6 _ rfl (by kernel_rfl) rfl (op_call0 (vs := [(.agg (key.map b8).toArray), (.agg (nonce.map b8).toArray), (b32 ctr), (.slice B8 n d9)]) (cap := []) (fun w hw => xor_f key nonce ctr (cxor key nonce ctr xs) B8 n d9 w (hok_cons ((src_rd 0 rfl) w hw) (hok_nil w)) (by first | assumption | exact sd) (by first | assumption | exact sd) (by first | assumption | omega | (simp; done) | (simp; omega)) sd) (enters_of Try.func40 (by kernel_rfl) rfl) rfl rfl rfl rfl rfl (fun t12 q13 => ?_))
    obtain ⟨B14, d15⟩ := t12
    refine D_on [1, 2, 3, 4] rfl ?_
    refine D_one 8 _ rfl (by kernel_rfl) rfl (op_call0 (vs := [(.slice B14 n d15), (.slice A n c)]) (cap := []) (fun w hw => bytes_f (cxor key nonce ctr (cxor key nonce ctr xs)) xs B14 n d15 A n c w (hok_cons ((src_row 0 rfl) w hw) (hok_cons ((src_rd 4 rfl) w hw) (hok_nil w))) ) (enters_of Try.func28 (by kernel_rfl) rfl) rfl rfl rfl rfl rfl (fun t16 q17 => ?_))
    refine D_on [1, 2, 3, 4] rfl ?_
    refine D_pure (i := 9) [1, 2, 3, 4] rfl (by kernel_rfl) rfl (pr_pick_t rfl rfl rfl) (.inr rfl) rfl rfl ?_
    refine D_pure (i := 10) [1, 2, 3, 4] rfl (by kernel_rfl) rfl (pr_move rfl rfl) (.inr rfl) rfl rfl ?_
    refine T_slot 39 (.bool (decide ((cxor key nonce ctr (cxor key nonce ctr xs)) = xs))) (.bool true) rfl (congrArg _ (by rw [cxor_cxor]; simp)) ?_
    refine T_slot 40 (.bool (decide ((cxor key nonce ctr (cxor key nonce ctr xs)) = xs))) (.bool true) rfl (congrArg _ (by rw [cxor_cxor]; simp)) ?_
    refine T_slot 41 (.bool (decide ((cxor key nonce ctr (cxor key nonce ctr xs)) = xs))) (.bool true) rfl (congrArg _ (by rw [cxor_cxor]; simp)) ?_
    refine D_pure (i := 11) [1, 2, 3, 4] rfl (by kernel_rfl) rfl (pr_move rfl rfl) (.inr rfl) rfl rfl ?_
    refine D_pure (i := 12) [1, 2, 3, 4] rfl (by kernel_rfl) rfl (pr_len_sl Try.underlying32 rfl rfl) (.inr rfl) rfl rfl ?_
    refine D_pure (i := 13) [1, 2, 3, 4] rfl (by kernel_rfl) rfl (pr_move rfl rfl) (.inr rfl) rfl rfl ?_
    refine D_pure (i := 14) [1, 2, 3, 4] rfl (by kernel_rfl) rfl (pr_len_sl Try.underlying32 rfl rfl) (.inr rfl) rfl rfl ?_
    refine D_pure (i := 15) [1, 2, 3, 4] rfl (by kernel_rfl) rfl (pr_cmp (bo := .eql) (nc_eq (a := n) (b := n)) rfl rfl rfl rfl) (.inr rfl) rfl rfl ?_
    refine D_pure (i := 16) [1, 2, 3, 4] rfl (by kernel_rfl) rfl (pr_pick_t rfl rfl rfl) (.inr rfl) rfl rfl ?_
    refine D_pure (i := 17) [1, 2, 3, 4] rfl (by kernel_rfl) rfl (pr_move rfl rfl) (.inr rfl) rfl rfl ?_
    refine T_slot 46 (.bool (n == n)) (.bool true) rfl (congrArg _ (by simp)) ?_
    refine T_slot 47 (.bool (n == n)) (.bool true) rfl (congrArg _ (by simp)) ?_
    refine T_slot 48 (.bool (n == n)) (.bool true) rfl (congrArg _ (by simp)) ?_
    refine D_pure (i := 20) [1, 2, 3, 4] rfl (by kernel_rfl) rfl (pr_move rfl rfl) (.inr rfl) rfl rfl ?_
    refine D_pure (i := 21) [1, 2, 3, 4] rfl (by kernel_rfl) rfl (pr_move rfl rfl) (.inr rfl) rfl rfl ?_
    refine D_pure (i := 22) [1, 2, 3, 4] rfl (by kernel_rfl) rfl (pr_cv (nw32 kk) Try.underlying3 Try.underlying43 rfl rfl) (.inr rfl) rfl rfl ?_
    refine D_pure (i := 23) [1, 2, 3, 4] rfl (by kernel_rfl) rfl (pr_add (add32 _ _) rfl rfl rfl) (.inr rfl) rfl rfl ?_
    refine D_pure (i := 24) [1, 2, 3, 4] rfl (by kernel_rfl) rfl (pr_move rfl rfl) (.inr rfl) rfl rfl ?_
    refine D_pure (i := 25) [1, 2, 3, 4] rfl (by kernel_rfl) rfl (pr_move rfl rfl) (.inr rfl) rfl rfl ?_
    refine D_pure (i := 26) [1, 2, 3, 4] rfl (by kernel_rfl) rfl (pr_mul (nm_i64 (a := 64) (b := kk) sd) rfl rfl rfl) (.inr rfl) rfl rfl ?_
    refine D_pure (i := 29) [1, 2, 3, 4] rfl (by kernel_rfl) rfl (pr_move rfl rfl) (.inr rfl) rfl rfl ?_
    refine D_pure (i := 30) [1, 2, 3, 4] rfl (by kernel_rfl) rfl (pr_move rfl rfl) (.inr rfl) rfl rfl ?_
    refine D_pure (i := 31) [1, 2, 3, 4] rfl (by kernel_rfl) rfl (pr_mul (nm_i64 (a := 64) (b := kk) sd) rfl rfl rfl) (.inr rfl) rfl rfl ?_
    refine D_take (i := 18) [1, 2, 3, 4] rfl (by kernel_rfl) rfl (ld_agg (ds := (key.map b8)) 2 rfl agg_all Try.underlying49 rfl (by rw [show ((key.map b8)).length = 32 from sd]; kernel_rfl) rfl rfl) rfl rfl rfl ?_
    refine D_take (i := 19) [1, 2, 3, 4] rfl (by kernel_rfl) rfl (ld_agg (ds := (nonce.map b8)) 1 rfl agg_all Try.underlying50 rfl (by rw [show ((nonce.map b8)).length = 12 from sd]; kernel_rfl) rfl rfl) rfl rfl rfl ?_
    refine D_join (T := Unit) (fun _ => True) (fun _ => [(10, (.bool (decide ((cxor key nonce (ctr + (BitVec.ofNat 32 kk)) (List.drop (64 * kk) xs)) = (List.drop (64 * kk) (cxor key nonce ctr xs))))))]) (fun _ => [.row (.slice B14 n d15) 5 1 n ((cxor key nonce ctr (cxor key nonce ctr xs)).map b8), .rd B8 1 n d9 ((cxor key nonce ctr xs).map b8), .blk g2 50 (nonce.map b8), .blk g1 49 (key.map b8), .rd A 1 n c (xs.map b8)]) ?_ ?_
    · skip
      refine D_all [27, 32] (by kernel_rfl) (by simp) ⟨⟨_, rfl, rfl, ?_⟩, ⟨_, rfl, rfl, ?_⟩, trivial⟩
      · skip
        refine id (op_slice_rd (l := 64 * kk) (u := n) 4 rfl sd sd Try.underlying32 (by kernel_rfl) rfl rfl ⟨_, rfl⟩ rfl rfl rfl (fun B26 => ?_))
        refine T_as 0 _ (.rd B26 1 (n - (64 * kk)) (c - (64 * kk)) ((List.drop (64 * kk) xs).map b8)) rfl (by congr 1; first | rfl | (rw [List.take_of_length_le (by simp; omega)]; simp)) ?_
        refine D_on [2, 3, 4, 5] rfl ?_
        refine D_all [28, 32] (by kernel_rfl) (by simp) ⟨⟨_, rfl, rfl, ?_⟩, ⟨_, rfl, rfl, ?_⟩, trivial⟩
        · skip
          refine id (op_call0 (vs := [(.agg (key.map b8).toArray), (.agg (nonce.map b8).toArray), (b32 (ctr + (BitVec.ofNat 32 kk))), (.slice B26 (n - (64 * kk)) (c - (64 * kk)))]) (cap := []) (fun w hw => xor_f key nonce (ctr + (BitVec.ofNat 32 kk)) (List.drop (64 * kk) xs) B26 (n - (64 * kk)) (c - (64 * kk)) w (hok_cons ((src_rd 0 rfl) w hw) (hok_nil w)) (by first | assumption | exact sd) (by first | assumption | exact sd) (by first | assumption | omega | (simp; done) | (simp; omega)) sd) (enters_of Try.func40 (by kernel_rfl) rfl) rfl rfl rfl rfl rfl (fun t27 q28 => ?_))
          obtain ⟨B29, d30⟩ := t27
          refine D_on [3, 4, 5, 6] rfl ?_
          refine D_one 32 _ rfl (by kernel_rfl) rfl (op_slice_rd (l := 64 * kk) (u := n) 3 rfl sd sd Try.underlying32 (by kernel_rfl) rfl rfl ⟨_, rfl⟩ rfl rfl rfl (fun B31 => ?_))
          refine T_as 0 _ (.rd B31 1 (n - (64 * kk)) (d9 - (64 * kk)) ((List.drop (64 * kk) (cxor key nonce ctr xs)).map b8)) rfl (by congr 1; first | rfl | (rw [List.take_of_length_le (by simp; omega)]; simp)) ?_
          refine D_on [4, 5, 6, 7] rfl ?_
          refine D_one 33 _ rfl (by kernel_rfl) rfl (op_call0 (vs := [(.slice B29 (n - (64 * kk)) d30), (.slice B31 (n - (64 * kk)) (d9 - (64 * kk)))]) (cap := []) (fun w hw => bytes_f (cxor key nonce (ctr + (BitVec.ofNat 32 kk)) (List.drop (64 * kk) xs)) (List.drop (64 * kk) (cxor key nonce ctr xs)) B29 (n - (64 * kk)) d30 B31 (n - (64 * kk)) (d9 - (64 * kk)) w (hok_cons ((src_row 1 rfl) w hw) (hok_cons ((src_rd 0 rfl) w hw) (hok_nil w))) ) (enters_of Try.func28 (by kernel_rfl) rfl) rfl rfl rfl rfl rfl (fun t32 q33 => ?_))
          refine D_on [4, 5, 6, 7] rfl ?_
          refine D_pure (i := 34) [4, 5, 6, 7] rfl (by kernel_rfl) rfl (pr_pick_t rfl rfl rfl) (.inr rfl) rfl rfl ?_
          refine D_pure (i := 35) [4, 5, 6, 7] rfl (by kernel_rfl) rfl (pr_assign rfl rfl) (.inr rfl) rfl rfl ?_
          refine D_done (by kernel_rfl) ?_
          exact T_meet () trivial (sc rfl sn) [3, 4, 5, 6, 7] ⟨by decide, rfl⟩
        · skip
          refine id (op_slice_rd (l := 64 * kk) (u := n) 2 rfl sd sd Try.underlying32 (by kernel_rfl) rfl rfl ⟨_, rfl⟩ rfl rfl rfl (fun B34 => ?_))
          refine T_as 0 _ (.rd B34 1 (n - (64 * kk)) (d9 - (64 * kk)) ((List.drop (64 * kk) (cxor key nonce ctr xs)).map b8)) rfl (by congr 1; first | rfl | (rw [List.take_of_length_le (by simp; omega)]; simp)) ?_
          refine D_on [3, 4, 5, 6] rfl ?_
          refine D_one 28 _ rfl (by kernel_rfl) rfl (op_call0 (vs := [(.agg (key.map b8).toArray), (.agg (nonce.map b8).toArray), (b32 (ctr + (BitVec.ofNat 32 kk))), (.slice B26 (n - (64 * kk)) (c - (64 * kk)))]) (cap := []) (fun w hw => xor_f key nonce (ctr + (BitVec.ofNat 32 kk)) (List.drop (64 * kk) xs) B26 (n - (64 * kk)) (c - (64 * kk)) w (hok_cons ((src_rd 1 rfl) w hw) (hok_nil w)) (by first | assumption | exact sd) (by first | assumption | exact sd) (by first | assumption | omega | (simp; done) | (simp; omega)) sd) (enters_of Try.func40 (by kernel_rfl) rfl) rfl rfl rfl rfl rfl (fun t35 q36 => ?_))
          obtain ⟨B37, d38⟩ := t35
          refine D_on [4, 5, 6, 7] rfl ?_
          refine D_one 33 _ rfl (by kernel_rfl) rfl (op_call0 (vs := [(.slice B37 (n - (64 * kk)) d38), (.slice B34 (n - (64 * kk)) (d9 - (64 * kk)))]) (cap := []) (fun w hw => bytes_f (cxor key nonce (ctr + (BitVec.ofNat 32 kk)) (List.drop (64 * kk) xs)) (List.drop (64 * kk) (cxor key nonce ctr xs)) B37 (n - (64 * kk)) d38 B34 (n - (64 * kk)) (d9 - (64 * kk)) w (hok_cons ((src_row 0 rfl) w hw) (hok_cons ((src_rd 1 rfl) w hw) (hok_nil w))) ) (enters_of Try.func28 (by kernel_rfl) rfl) rfl rfl rfl rfl rfl (fun t39 q40 => ?_))
          refine D_on [4, 5, 6, 7] rfl ?_
          refine D_pure (i := 34) [4, 5, 6, 7] rfl (by kernel_rfl) rfl (pr_pick_t rfl rfl rfl) (.inr rfl) rfl rfl ?_
          refine D_pure (i := 35) [4, 5, 6, 7] rfl (by kernel_rfl) rfl (pr_assign rfl rfl) (.inr rfl) rfl rfl ?_
          refine D_done (by kernel_rfl) ?_
          exact T_meet () trivial (sc rfl sn) [3, 4, 5, 6, 7] ⟨by decide, rfl⟩
      · skip
        refine id (op_slice_rd (l := 64 * kk) (u := n) 1 rfl sd sd Try.underlying32 (by kernel_rfl) rfl rfl ⟨_, rfl⟩ rfl rfl rfl (fun B41 => ?_))
        refine T_as 0 _ (.rd B41 1 (n - (64 * kk)) (d9 - (64 * kk)) ((List.drop (64 * kk) (cxor key nonce ctr xs)).map b8)) rfl (by congr 1; first | rfl | (rw [List.take_of_length_le (by simp; omega)]; simp)) ?_
        refine D_on [2, 3, 4, 5] rfl ?_
        refine D_one 27 _ rfl (by kernel_rfl) rfl (op_slice_rd (l := 64 * kk) (u := n) 5 rfl sd sd Try.underlying32 (by kernel_rfl) rfl rfl ⟨_, rfl⟩ rfl rfl rfl (fun B42 => ?_))
        refine T_as 0 _ (.rd B42 1 (n - (64 * kk)) (c - (64 * kk)) ((List.drop (64 * kk) xs).map b8)) rfl (by congr 1; first | rfl | (rw [List.take_of_length_le (by simp; omega)]; simp)) ?_
        refine D_on [3, 4, 5, 6] rfl ?_
        refine D_one 28 _ rfl (by kernel_rfl) rfl (op_call0 (vs := [(.agg (key.map b8).toArray), (.agg (nonce.map b8).toArray), (b32 (ctr + (BitVec.ofNat 32 kk))), (.slice B42 (n - (64 * kk)) (c - (64 * kk)))]) (cap := []) (fun w hw => xor_f key nonce (ctr + (BitVec.ofNat 32 kk)) (List.drop (64 * kk) xs) B42 (n - (64 * kk)) (c - (64 * kk)) w (hok_cons ((src_rd 0 rfl) w hw) (hok_nil w)) (by first | assumption | exact sd) (by first | assumption | exact sd) (by first | assumption | omega | (simp; done) | (simp; omega)) sd) (enters_of Try.func40 (by kernel_rfl) rfl) rfl rfl rfl rfl rfl (fun t43 q44 => ?_))
        obtain ⟨B45, d46⟩ := t43
        refine D_on [4, 5, 6, 7] rfl ?_
        refine D_one 33 _ rfl (by kernel_rfl) rfl (op_call0 (vs := [(.slice B45 (n - (64 * kk)) d46), (.slice B41 (n - (64 * kk)) (d9 - (64 * kk)))]) (cap := []) (fun w hw => bytes_f (cxor key nonce (ctr + (BitVec.ofNat 32 kk)) (List.drop (64 * kk) xs)) (List.drop (64 * kk) (cxor key nonce ctr xs)) B45 (n - (64 * kk)) d46 B41 (n - (64 * kk)) (d9 - (64 * kk)) w (hok_cons ((src_row 0 rfl) w hw) (hok_cons ((src_rd 2 rfl) w hw) (hok_nil w))) ) (enters_of Try.func28 (by kernel_rfl) rfl) rfl rfl rfl rfl rfl (fun t47 q48 => ?_))
        refine D_on [4, 5, 6, 7] rfl ?_
        refine D_pure (i := 34) [4, 5, 6, 7] rfl (by kernel_rfl) rfl (pr_pick_t rfl rfl rfl) (.inr rfl) rfl rfl ?_
        refine D_pure (i := 35) [4, 5, 6, 7] rfl (by kernel_rfl) rfl (pr_assign rfl rfl) (.inr rfl) rfl rfl ?_
        refine D_done (by kernel_rfl) ?_
        exact T_meet () trivial (sc rfl sn) [3, 4, 5, 6, 7] ⟨by decide, rfl⟩
    · rintro ⟨⟩ -
      refine T_re [(10, (.bool (decide ((cxor key nonce (ctr + (BitVec.ofNat 32 kk)) (List.drop (64 * kk) xs)) = (List.drop (64 * kk) (cxor key nonce ctr xs))))))] (sc rfl sn) ?_
      refine T_he [0, 1, 2, 3, 4] [.row (.slice B14 n d15) 5 1 n ((cxor key nonce ctr (cxor key nonce ctr xs)).map b8), .rd B8 1 n d9 ((cxor key nonce ctr xs).map b8), .blk g2 50 (nonce.map b8), .blk g1 49 (key.map b8), .rd A 1 n c (xs.map b8)] ⟨by decide, rfl⟩ ?_
      refine T_ret ?_
      refine T_slot 10 (.bool (decide ((cxor key nonce (ctr + (BitVec.ofNat 32 kk)) (List.drop (64 * kk) xs)) = (List.drop (64 * kk) (cxor key nonce ctr xs))))) (.bool true) rfl (by first | (rw [cxor_drop _ _ _ _ _ (by omega)]; simp; done) | (simp; done)) ?_
      exact T_fin () (by first | trivial | omega | (simp; done)) (res1 rfl rfl) [] ⟨by decide, rfl⟩ rfl
set_option maxRecDepth 100000 in
set_option maxHeartbeats 4000000 in
theorem chachaStream_f (key : List (BitVec 8)) (nonce : List (BitVec 8)) (ctr : BitVec 32) (z : Int) (w : World) (hO : HOK [] w) (hk : key.length = 32) (hn : nonce.length = 12) : Calls Try.prog 13 [(.agg (key.map b8).toArray), (.agg (nonce.map b8).toArray), (b32 ctr), (.int .i64 z)].toArray w (Ret (T := Unit) [] w (fun _ => True) (fun _ => (.bool true)) (fun _ => [])) := by
  have hbl := fun c => cblock_len key c nonce
  have hF : Wid Fence.wide := wid_wide
  refine enter (c := _) Try.func13 rfl [] [(.agg (key.map b8).toArray), (.agg (nonce.map b8).toArray), (b32 ctr), (.int .i64 z)] [] (by rw [Try.ntmps13]; rfl) (own_rds hO rfl) ?_
  rw [Try.ntmps13]
  refine T_re [(0, (.agg (key.map b8).toArray)), (1, (.agg (nonce.map b8).toArray)), (2, (b32 ctr)), (3, (.int .i64 z))] (sc rfl (sc rfl (sc rfl (sc rfl sn)))) ?_
  refine T_he [] [] ⟨by decide, rfl⟩ ?_
  refine T_seq ?_
  refine T_reg hF rfl ?_
  refine L_op rfl (op_box (zs := (key.map b8)) rfl rfl rfl rfl rfl (fun g1 => ?_))
  refine L_op rfl (op_box (zs := (nonce.map b8)) rfl rfl rfl rfl rfl (fun g2 => ?_))
  refine L_op rfl (op_pr (pr_assign rfl rfl) rfl rfl ?_)
  refine L_nil ?_
  refine T_re [(2, (b32 ctr)), (3, (.int .i64 z)), (4, (.pointer (some ⟨g1, 0, none⟩))), (5, (.pointer (some ⟨g2, 0, none⟩)))] (sc rfl (sc rfl (sc rfl (sc rfl sn)))) ?_
  refine T_he [0, 1] [.blk g2 50 (nonce.map b8), .blk g1 49 (key.map b8)] ⟨by decide, rfl⟩ ?_
  refine T_seq ?_
  refine T_reg hF rfl ?_
  refine L_op rfl (op_pr (pr_move rfl rfl) rfl rfl ?_)
  refine L_op rfl (op_pr (pr_cv (zc_u64 z) Try.underlying3 Try.underlying34 rfl rfl) rfl rfl ?_)
  refine L_op rfl (op_pr (pr_rem (a := (BitVec.ofInt 64 z).toNat) (b := 400) sd rfl rfl rfl) rfl rfl ?_)
  refine L_op rfl (op_pr (pr_cv (ni_i64 (a := ((BitVec.ofInt 64 z).toNat) % 400) sd) Try.underlying34 Try.underlying3 rfl rfl) rfl rfl ?_)
  refine L_op rfl (op_pr (pr_assign rfl rfl) rfl rfl ?_)
  refine L_nil ?_
  obtain ⟨n, hn_n⟩ : ∃ x : Nat, ((BitVec.ofInt 64 z).toNat) % 400 = x := ⟨_, rfl⟩
  have hnb : n < 400 := by omega
  have hcl := cxor_len key nonce (-(BitVec.ofNat 32 (ctr.toNat % 4))) (List.replicate n 0#8)
  refine T_slot 3 (.int .i64 ((((BitVec.ofInt 64 z).toNat) % 400 : Nat) : Int)) (.int .i64 ((n : Nat) : Int)) rfl (by rw [hn_n]) ?_
  refine T_re [(2, (b32 ctr)), (3, (.int .i64 ((n : Nat) : Int))), (4, (.pointer (some ⟨g1, 0, none⟩))), (5, (.pointer (some ⟨g2, 0, none⟩)))] (sc rfl (sc rfl (sc rfl (sc rfl sn)))) ?_
  refine T_he [0, 1] [.blk g2 50 (nonce.map b8), .blk g1 49 (key.map b8)] ⟨by decide, rfl⟩ ?_
  refine T_seq ?_
  refine T_reg hF rfl ?_
  refine L_op rfl (op_pr (pr_move rfl rfl) rfl rfl ?_)
  refine L_op rfl (op_pr (pr_rem (a := ctr.toNat) (b := 4) sd rfl rfl rfl) rfl rfl ?_)
  refine T_slot 18 (.int .u32 ((ctr.toNat % 4 : Nat) : Int)) (b32 (BitVec.ofNat 32 (ctr.toNat % 4))) rfl (nat32 (by omega)) ?_
  refine L_op rfl (op_pr (pr_un (un_neg32 _) rfl rfl) rfl rfl ?_)
  refine L_op rfl (op_pr (pr_assign rfl rfl) rfl rfl ?_)
  refine L_nil ?_
  refine T_re [(3, (.int .i64 ((n : Nat) : Int))), (4, (.pointer (some ⟨g1, 0, none⟩))), (5, (.pointer (some ⟨g2, 0, none⟩))), (9, (b32 (-(BitVec.ofNat 32 (ctr.toNat % 4)))))] (sc rfl (sc rfl (sc rfl (sc rfl sn)))) ?_
  refine T_he [0, 1] [.blk g2 50 (nonce.map b8), .blk g1 49 (key.map b8)] ⟨by decide, rfl⟩ ?_
  refine T_seq ?_
  refine T_regD [.blk g2 50 (nonce.map b8), .blk g1 49 (key.map b8)] 7 7 #[false, false, false, false, false, false, false] hF (by kernel_rfl) (by kernel_rfl) ?_
  refine D_pure (i := 2) [0, 1] rfl (by kernel_rfl) rfl (pr_move rfl rfl) (.inr rfl) rfl rfl ?_
  refine D_pure (i := 3) [0, 1] rfl (by kernel_rfl) rfl (pr_move rfl rfl) (.inr rfl) rfl rfl ?_
  refine D_take (i := 0) [0, 1] rfl (by kernel_rfl) rfl (ld_agg (ds := (key.map b8)) 1 rfl agg_all Try.underlying49 rfl (by rw [show ((key.map b8)).length = 32 from sd]; kernel_rfl) rfl rfl) rfl rfl rfl ?_
  refine D_take (i := 1) [0, 1] rfl (by kernel_rfl) rfl (ld_agg (ds := (nonce.map b8)) 0 rfl agg_all Try.underlying50 rfl (by rw [show ((nonce.map b8)).length = 12 from sd]; kernel_rfl) rfl rfl) rfl rfl rfl ?_
  refine D_one 4 _ rfl (by kernel_rfl) rfl (op_make (z := (b8 (0#8))) (n := n) (c := n) Try.underlying32 (bytes := 1) (by kernel_rfl) rfl sd sd sd rfl rfl rfl rfl rfl (fun g3 => ?_))
  refine T_as 0 _ (.blk g3 5 ((List.replicate n 0#8).map b8)) rfl (by rw [List.map_replicate]) ?_
  refine D_on [1, 2] rfl ?_
  refine D_one 5 _ rfl (by kernel_rfl) rfl (op_call0 (vs := [(.agg (key.map b8).toArray), (.agg (nonce.map b8).toArray), (b32 (-(BitVec.ofNat 32 (ctr.toNat % 4)))), (.slice (some ⟨g3, 0, none⟩) n n)]) (cap := []) (fun w hw => xor_f key nonce (-(BitVec.ofNat 32 (ctr.toNat % 4))) (List.replicate n 0#8) (some ⟨g3, 0, none⟩) n n w (hok_cons ((src_full (z := 1) 0 rfl sd sd sd) w hw) (hok_nil w)) (by first | assumption | exact sd) (by first | assumption | exact sd) (by first | assumption | omega | (simp; done) | (simp; omega)) sd) (enters_of Try.func40 (by kernel_rfl) rfl) rfl rfl rfl rfl rfl (fun t4 q5 => ?_))
  obtain ⟨B6, d7⟩ := t4
  refine D_on [2, 3] rfl ?_
  refine D_pure (i := 6) [2, 3] rfl (by kernel_rfl) rfl (pr_assign rfl rfl) (.inr rfl) rfl rfl ?_
  refine D_done (by kernel_rfl) ?_
  refine T_re [(3, (.int .i64 ((n : Nat) : Int))), (4, (.pointer (some ⟨g1, 0, none⟩))), (5, (.pointer (some ⟨g2, 0, none⟩))), (9, (b32 (-(BitVec.ofNat 32 (ctr.toNat % 4))))), (10, (.slice B6 n d7))] (sc rfl (sc rfl (sc rfl (sc rfl (sc rfl sn))))) ?_
  refine T_he [0, 1, 2, 3] [.row (.slice B6 n d7) 5 1 n ((cxor key nonce (-(BitVec.ofNat 32 (ctr.toNat % 4))) (List.replicate n 0#8)).map b8), .blk g3 5 ((List.replicate n 0#8).map b8), .blk g2 50 (nonce.map b8), .blk g1 49 (key.map b8)] ⟨by decide, rfl⟩ ?_
  refine T_seq ?_
  refine T_seq ?_
  refine T_reg hF rfl ?_
  refine L_op rfl (op_call0 (vs := []) (cap := []) (fun w hw => awake5_f  w (hok_nil w) ) (enters_of Try.func34 (by kernel_rfl) rfl) rfl rfl rfl rfl rfl (fun t8 q9 => ?_))
  refine L_op rfl (op_pr (pr_un (v := .bool false) rfl rfl rfl) rfl rfl ?_)
  refine L_op rfl (op_pr (pr_move rfl rfl) rfl rfl ?_)
  refine L_op rfl (op_pr (pr_move rfl rfl) rfl rfl ?_)
  refine L_op rfl (op_pr (pr_len_sl Try.underlying32 rfl rfl) rfl rfl ?_)
  refine L_op rfl (op_pr (pr_move rfl rfl) rfl rfl ?_)
  refine L_op rfl (op_pr (pr_cmp (bo := .neq) (nc_ne (a := n) (b := n)) rfl rfl rfl rfl) rfl rfl ?_)
  refine L_op rfl (op_pr (pr_pick_f rfl rfl rfl) rfl rfl ?_)
  refine L_nil ?_
  refine T_re [(3, (.int .i64 ((n : Nat) : Int))), (4, (.pointer (some ⟨g1, 0, none⟩))), (5, (.pointer (some ⟨g2, 0, none⟩))), (9, (b32 (-(BitVec.ofNat 32 (ctr.toNat % 4))))), (10, (.slice B6 n d7)), (33, (.bool (n != n)))] (sc rfl (sc rfl (sc rfl (sc rfl (sc rfl (sc rfl sn)))))) ?_
  refine T_he [0, 1, 2, 3] [.row (.slice B6 n d7) 5 1 n ((cxor key nonce (-(BitVec.ofNat 32 (ctr.toNat % 4))) (List.replicate n 0#8)).map b8), .blk g3 5 ((List.replicate n 0#8).map b8), .blk g2 50 (nonce.map b8), .blk g1 49 (key.map b8)] ⟨by decide, rfl⟩ ?_
  refine T_cond_no (t := (n != n)) rfl (by simp) ?_
  refine T_skip ?_
  refine T_seq ?_
  refine T_seq ?_
  refine T_reg hF rfl ?_
  refine L_op rfl (op_pr (pr_assign rfl rfl) rfl rfl ?_)
  refine L_nil ?_
  refine T_re [(3, (.int .i64 ((n : Nat) : Int))), (4, (.pointer (some ⟨g1, 0, none⟩))), (5, (.pointer (some ⟨g2, 0, none⟩))), (9, (b32 (-(BitVec.ofNat 32 (ctr.toNat % 4))))), (10, (.slice B6 n d7)), (11, (.int .i64 ((0 : Nat) : Int)))] (sc rfl (sc rfl (sc rfl (sc rfl (sc rfl (sc rfl sn)))))) ?_
  refine T_he [0, 1, 2, 3] [.row (.slice B6 n d7) 5 1 n ((cxor key nonce (-(BitVec.ofNat 32 (ctr.toNat % 4))) (List.replicate n 0#8)).map b8), .blk g3 5 ((List.replicate n 0#8).map b8), .blk g2 50 (nonce.map b8), .blk g1 49 (key.map b8)] ⟨by decide, rfl⟩ ?_
  refine T_block ?_
  refine T_loop (T := Nat) (fun i => i ≤ n) (fun i => [(3, (.int .i64 ((n : Nat) : Int))), (4, (.pointer (some ⟨g1, 0, none⟩))), (5, (.pointer (some ⟨g2, 0, none⟩))), (9, (b32 (-(BitVec.ofNat 32 (ctr.toNat % 4))))), (10, (.slice B6 n d7)), (11, (.int .i64 ((i : Nat) : Int)))]) (fun i => [.row (.slice B6 n d7) 5 1 n ((cxor key nonce (-(BitVec.ofNat 32 (ctr.toNat % 4))) (List.replicate n 0#8)).map b8), .blk g3 5 ((List.replicate n 0#8).map b8), .blk g2 50 (nonce.map b8), .blk g1 49 (key.map b8)]) (fun i => n - i) 0 (by first | trivial | ((try dsimp only); first | omega | (refine ⟨?_, ?_⟩ <;> omega) | (refine ⟨?_, ?_, ?_⟩ <;> omega) | (simp; done) | (simp; omega))) (sc rfl (sc rfl (sc rfl (sc rfl (sc rfl (sc rfl sn)))))) [0, 1, 2, 3] ⟨by decide, rfl⟩ ?_
  rintro i hp
  have hp : i ≤ n := hp
  refine T_re [(3, (.int .i64 ((n : Nat) : Int))), (4, (.pointer (some ⟨g1, 0, none⟩))), (5, (.pointer (some ⟨g2, 0, none⟩))), (9, (b32 (-(BitVec.ofNat 32 (ctr.toNat % 4))))), (10, (.slice B6 n d7)), (11, (.int .i64 ((i : Nat) : Int)))] (sc rfl (sc rfl (sc rfl (sc rfl (sc rfl (sc rfl sn)))))) ?_
  refine T_he [0, 1, 2, 3] [.row (.slice B6 n d7) 5 1 n ((cxor key nonce (-(BitVec.ofNat 32 (ctr.toNat % 4))) (List.replicate n 0#8)).map b8), .blk g3 5 ((List.replicate n 0#8).map b8), .blk g2 50 (nonce.map b8), .blk g1 49 (key.map b8)] ⟨by decide, rfl⟩ ?_
  refine T_seq ?_
  refine T_seq ?_
  refine T_reg hF rfl ?_
  refine L_op rfl (op_pr (pr_move rfl rfl) rfl rfl ?_)
  refine L_op rfl (op_pr (pr_move rfl rfl) rfl rfl ?_)
  refine L_op rfl (op_pr (pr_cmp (bo := .lss) (nc_lt (a := i) (b := n)) rfl rfl rfl rfl) rfl rfl ?_)
  refine L_nil ?_
  refine T_re [(3, (.int .i64 ((n : Nat) : Int))), (4, (.pointer (some ⟨g1, 0, none⟩))), (5, (.pointer (some ⟨g2, 0, none⟩))), (9, (b32 (-(BitVec.ofNat 32 (ctr.toNat % 4))))), (10, (.slice B6 n d7)), (11, (.int .i64 ((i : Nat) : Int))), (36, (.bool (decide (i < n))))] (sc rfl (sc rfl (sc rfl (sc rfl (sc rfl (sc rfl (sc rfl sn))))))) ?_
  refine T_he [0, 1, 2, 3] [.row (.slice B6 n d7) 5 1 n ((cxor key nonce (-(BitVec.ofNat 32 (ctr.toNat % 4))) (List.replicate n 0#8)).map b8), .blk g3 5 ((List.replicate n 0#8).map b8), .blk g2 50 (nonce.map b8), .blk g1 49 (key.map b8)] ⟨by decide, rfl⟩ ?_
  refine T_cond (decide (i < n)) rfl (fun hc_10 => ?_) (fun hc_10 => ?_)
  · skip
    have hc_10 := of_decide_eq_true hc_10
    refine T_skip ?_
    refine T_seq ?_
    refine T_block ?_
    refine T_seq ?_
    refine T_reg hF rfl ?_
    refine L_op rfl (op_ld (ld_agg (ds := (key.map b8)) 3 rfl agg_all Try.underlying49 rfl (by rw [show ((key.map b8)).length = 32 from sd]; kernel_rfl) rfl rfl) rfl rfl ?_)
    refine L_op rfl (op_pr (pr_move rfl rfl) rfl rfl ?_)
    refine L_op rfl (op_pr (pr_move rfl rfl) rfl rfl ?_)
    refine L_op rfl (op_pr (pr_quo (a := i) (b := 64) sd sd rfl rfl rfl) rfl rfl ?_)
    refine L_op rfl (op_pr (pr_cv (nw32 (i / 64)) Try.underlying3 Try.underlying43 rfl rfl) rfl rfl ?_)
    refine L_op rfl (op_pr (pr_add (add32 _ _) rfl rfl rfl) rfl rfl ?_)
    refine L_op rfl (op_ld (ld_agg (ds := (nonce.map b8)) 2 rfl agg_all Try.underlying50 rfl (by rw [show ((nonce.map b8)).length = 12 from sd]; kernel_rfl) rfl rfl) rfl rfl ?_)
    refine L_op rfl (op_call0 (vs := [(.agg (key.map b8).toArray), (b32 ((-(BitVec.ofNat 32 (ctr.toNat % 4))) + (BitVec.ofNat 32 (i / 64)))), (.agg (nonce.map b8).toArray)]) (cap := []) (fun w hw => cblock_f key ((-(BitVec.ofNat 32 (ctr.toNat % 4))) + (BitVec.ofNat 32 (i / 64))) nonce w (hok_nil w) (by first | assumption | exact sd) (by first | assumption | exact sd)) (enters_of Try.func36 (by kernel_rfl) rfl) rfl rfl rfl rfl rfl (fun t11 q12 => ?_))
    refine L_op rfl (op_alloc (z := .agg ((List.replicate 64 0#8).map b8).toArray) (zs := ((List.replicate 64 0#8).map b8)) (by kernel_rfl) rfl rfl rfl rfl (fun g13 => ?_))
    refine L_op rfl (op_store (vs := ((cblock key ((-(BitVec.ofNat 32 (ctr.toNat % 4))) + (BitVec.ofNat 32 (i / 64))) nonce).map b8)) (cs' := ((cblock key ((-(BitVec.ofNat 32 (ctr.toNat % 4))) + (BitVec.ofNat 32 (i / 64))) nonce).map b8)) 0 rfl rfl (by rw [show (((cblock key ((-(BitVec.ofNat 32 (ctr.toNat % 4))) + (BitVec.ofNat 32 (i / 64))) nonce).map b8)).length = 64 from sd]; kernel_rfl) (all8_one _) (by have h1 : (((List.replicate 64 0#8).map b8)).length = 64 := (by kernel_rfl); have h2 : (((cblock key ((-(BitVec.ofNat 32 (ctr.toNat % 4))) + (BitVec.ofNat 32 (i / 64))) nonce).map b8)).length = 64 := sd; omega) (splice_all (Eq.trans (b := 64) (by kernel_rfl) (Eq.symm sd))) rfl rfl rfl rfl ?_)
    refine L_nil ?_
    refine T_re [(3, (.int .i64 ((n : Nat) : Int))), (4, (.pointer (some ⟨g1, 0, none⟩))), (5, (.pointer (some ⟨g2, 0, none⟩))), (9, (b32 (-(BitVec.ofNat 32 (ctr.toNat % 4))))), (10, (.slice B6 n d7)), (11, (.int .i64 ((i : Nat) : Int))), (12, (.pointer (some ⟨g13, 0, none⟩)))] (sc rfl (sc rfl (sc rfl (sc rfl (sc rfl (sc rfl (sc rfl sn))))))) ?_
    refine T_he [0, 1, 2, 3, 4] [.blk g13 51 ((cblock key ((-(BitVec.ofNat 32 (ctr.toNat % 4))) + (BitVec.ofNat 32 (i / 64))) nonce).map b8), .row (.slice B6 n d7) 5 1 n ((cxor key nonce (-(BitVec.ofNat 32 (ctr.toNat % 4))) (List.replicate n 0#8)).map b8), .blk g3 5 ((List.replicate n 0#8).map b8), .blk g2 50 (nonce.map b8), .blk g1 49 (key.map b8)] ⟨by decide, rfl⟩ ?_
    refine T_seq ?_
    refine T_regD [.blk g13 51 ((cblock key ((-(BitVec.ofNat 32 (ctr.toNat % 4))) + (BitVec.ofNat 32 (i / 64))) nonce).map b8), .row (.slice B6 n d7) 5 1 n ((cxor key nonce (-(BitVec.ofNat 32 (ctr.toNat % 4))) (List.replicate n 0#8)).map b8), .blk g3 5 ((List.replicate n 0#8).map b8), .blk g2 50 (nonce.map b8), .blk g1 49 (key.map b8)] 9 9 #[false, false, false, false, false, false, false, false, false] hF (by kernel_rfl) (by kernel_rfl) ?_
    refine D_pure (i := 0) [0, 1, 2, 3, 4] rfl (by kernel_rfl) rfl (pr_move rfl rfl) (.inr rfl) rfl rfl ?_
    refine D_pure (i := 1) [0, 1, 2, 3, 4] rfl (by kernel_rfl) rfl (pr_move rfl rfl) (.inr rfl) rfl rfl ?_
    refine D_pure (i := 2) [0, 1, 2, 3, 4] rfl (by kernel_rfl) rfl (pr_ixs1 (j := i) (src_none (src_row 1 rfl)) sd Try.underlying32 (by kernel_rfl) rfl rfl rfl) (.inr rfl) rfl rfl ?_
    refine D_pure (i := 4) [0, 1, 2, 3, 4] rfl (by kernel_rfl) rfl (pr_move rfl rfl) (.inr rfl) rfl rfl ?_
    refine D_pure (i := 5) [0, 1, 2, 3, 4] rfl (by kernel_rfl) rfl (pr_rem (a := i) (b := 64) sd rfl rfl rfl) (.inr rfl) rfl rfl ?_
    refine D_pure (i := 6) [0, 1, 2, 3, 4] rfl (by kernel_rfl) rfl (pr_ixa (j := i % 64) (m' := i % 64) sd (by omega) Try.underlying51 (z := 1) (by kernel_rfl) rfl rfl rfl) (.inr rfl) rfl rfl ?_
    refine D_take (i := 3) [0, 1, 2, 3, 4] rfl (by kernel_rfl) rfl (ld_src (m := i) (src_row 1 rfl) (get8 sd) Try.underlying5 rfl rfl rfl) rfl rfl rfl ?_
    refine D_take (i := 7) [0, 1, 2, 3, 4] rfl (by kernel_rfl) rfl (ld_blk 0 rfl (get8 sd) Try.underlying5 rfl rfl rfl) rfl rfl rfl ?_
    refine D_pure (i := 8) [0, 1, 2, 3, 4] rfl (by kernel_rfl) rfl (pr_cmp (bo := .neq) (n8_bne (ath (cxor key nonce (-(BitVec.ofNat 32 (ctr.toNat % 4))) (List.replicate n 0#8)) i) (ath (cblock key ((-(BitVec.ofNat 32 (ctr.toNat % 4))) + (BitVec.ofNat 32 (i / 64))) nonce) (i % 64))) rfl rfl rfl rfl) (.inr rfl) rfl rfl ?_
    refine D_done (by kernel_rfl) ?_
    refine T_re [(3, (.int .i64 ((n : Nat) : Int))), (4, (.pointer (some ⟨g1, 0, none⟩))), (5, (.pointer (some ⟨g2, 0, none⟩))), (9, (b32 (-(BitVec.ofNat 32 (ctr.toNat % 4))))), (10, (.slice B6 n d7)), (11, (.int .i64 ((i : Nat) : Int))), (55, (.bool ((ath (cxor key nonce (-(BitVec.ofNat 32 (ctr.toNat % 4))) (List.replicate n 0#8)) i) != (ath (cblock key ((-(BitVec.ofNat 32 (ctr.toNat % 4))) + (BitVec.ofNat 32 (i / 64))) nonce) (i % 64)))))] (sc rfl (sc rfl (sc rfl (sc rfl (sc rfl (sc rfl (sc rfl sn))))))) ?_
    refine T_he [0, 1, 2, 3, 4] [.blk g13 51 ((cblock key ((-(BitVec.ofNat 32 (ctr.toNat % 4))) + (BitVec.ofNat 32 (i / 64))) nonce).map b8), .row (.slice B6 n d7) 5 1 n ((cxor key nonce (-(BitVec.ofNat 32 (ctr.toNat % 4))) (List.replicate n 0#8)).map b8), .blk g3 5 ((List.replicate n 0#8).map b8), .blk g2 50 (nonce.map b8), .blk g1 49 (key.map b8)] ⟨by decide, rfl⟩ ?_
    refine T_cond_no (t := ((ath (cxor key nonce (-(BitVec.ofNat 32 (ctr.toNat % 4))) (List.replicate n 0#8)) i) != (ath (cblock key ((-(BitVec.ofNat 32 (ctr.toNat % 4))) + (BitVec.ofNat 32 (i / 64))) nonce) (i % 64)))) rfl (by rw [cxor_zeros _ _ _ _ _ (by omega)]; simp) ?_
    refine T_skip ?_
    refine T_reg hF rfl ?_
    refine L_op rfl (op_pr (pr_move rfl rfl) rfl rfl ?_)
    refine L_op rfl (op_pr (pr_add (na_i64 (a := i) (b := 1) sd) rfl rfl rfl) rfl rfl ?_)
    refine L_op rfl (op_pr (pr_assign rfl rfl) rfl rfl ?_)
    refine L_nil ?_
    refine T_re [(3, (.int .i64 ((n : Nat) : Int))), (4, (.pointer (some ⟨g1, 0, none⟩))), (5, (.pointer (some ⟨g2, 0, none⟩))), (9, (b32 (-(BitVec.ofNat 32 (ctr.toNat % 4))))), (10, (.slice B6 n d7)), (11, (.int .i64 ((i + 1 : Nat) : Int)))] (sc rfl (sc rfl (sc rfl (sc rfl (sc rfl (sc rfl sn)))))) ?_
    refine T_he [0, 1, 2, 3, 4] [.blk g13 51 ((cblock key ((-(BitVec.ofNat 32 (ctr.toNat % 4))) + (BitVec.ofNat 32 (i / 64))) nonce).map b8), .row (.slice B6 n d7) 5 1 n ((cxor key nonce (-(BitVec.ofNat 32 (ctr.toNat % 4))) (List.replicate n 0#8)).map b8), .blk g3 5 ((List.replicate n 0#8).map b8), .blk g2 50 (nonce.map b8), .blk g1 49 (key.map b8)] ⟨by decide, rfl⟩ ?_
    exact T_again (i + 1) (by first | trivial | ((try dsimp only); first | omega | (refine ⟨?_, ?_⟩ <;> omega) | (refine ⟨?_, ?_, ?_⟩ <;> omega) | (simp; done) | (simp; omega))) (by first | trivial | ((try dsimp only); first | omega | (refine ⟨?_, ?_⟩ <;> omega) | (refine ⟨?_, ?_, ?_⟩ <;> omega) | (simp; done) | (simp; omega))) (sc rfl (sc rfl (sc rfl (sc rfl (sc rfl (sc rfl sn)))))) [1, 2, 3, 4] ⟨by decide, rfl⟩
  · skip
    have hc_10 := of_decide_eq_false hc_10
    refine T_exit rfl ?_
    refine T_seq ?_
    refine T_reg hF rfl ?_
    refine L_op rfl (op_pr (pr_assign rfl rfl) rfl rfl ?_)
    refine L_nil ?_
    refine T_re [(8, (.bool true))] (sc rfl sn) ?_
    refine T_he [0, 1, 2, 3] [.row (.slice B6 n d7) 5 1 n ((cxor key nonce (-(BitVec.ofNat 32 (ctr.toNat % 4))) (List.replicate n 0#8)).map b8), .blk g3 5 ((List.replicate n 0#8).map b8), .blk g2 50 (nonce.map b8), .blk g1 49 (key.map b8)] ⟨by decide, rfl⟩ ?_
    refine T_ret ?_
    exact T_fin () (by first | trivial | omega | (simp; done)) (res1 rfl rfl) [] ⟨by decide, rfl⟩ rfl
end Go.Proofs.Ytchfhndpbfohhaa
