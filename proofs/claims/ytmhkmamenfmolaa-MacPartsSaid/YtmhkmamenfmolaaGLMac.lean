/- The statements of layer 3, walked by facts. -/
import Derived.Test.YtmhkmamenfmolaaGMac
import Derived.Test.YtmhkmamenfmolaaProg
import Derived.Test.YtmhkmamenfmolaaFwK
namespace Go.Proofs.Ytmhkmamenfmolaa
set_option linter.unusedVariables false
set_option linter.unusedSimpArgs false
set_option linter.unnecessarySimpa false
open Go.RowKit Bv Fw

theorem fox_at : ∀ x ∈ [(0, 247#8), (1, 188#8), (31, 216#8)], ath (mactag [107#8, 101#8, 121#8] [84#8, 104#8, 101#8, 32#8, 113#8, 117#8, 105#8, 99#8, 107#8, 32#8, 98#8, 114#8, 111#8, 119#8, 110#8, 32#8, 102#8, 111#8, 120#8, 32#8, 106#8, 117#8, 109#8, 112#8, 115#8, 32#8, 111#8, 118#8, 101#8, 114#8, 32#8, 116#8, 104#8, 101#8, 32#8, 108#8, 97#8, 122#8, 121#8, 32#8, 100#8, 111#8, 103#8]) x.1 = x.2 := by
  have h0 : ath (mactag [107#8, 101#8, 121#8] [84#8, 104#8, 101#8, 32#8, 113#8, 117#8, 105#8, 99#8, 107#8, 32#8, 98#8, 114#8, 111#8, 119#8, 110#8, 32#8, 102#8, 111#8, 120#8, 32#8, 106#8, 117#8, 109#8, 112#8, 115#8, 32#8, 111#8, 118#8, 101#8, 114#8, 32#8, 116#8, 104#8, 101#8, 32#8, 108#8, 97#8, 122#8, 121#8, 32#8, 100#8, 111#8, 103#8]) 0 = 247#8 := by kernel_rfl
  have h1 : ath (mactag [107#8, 101#8, 121#8] [84#8, 104#8, 101#8, 32#8, 113#8, 117#8, 105#8, 99#8, 107#8, 32#8, 98#8, 114#8, 111#8, 119#8, 110#8, 32#8, 102#8, 111#8, 120#8, 32#8, 106#8, 117#8, 109#8, 112#8, 115#8, 32#8, 111#8, 118#8, 101#8, 114#8, 32#8, 116#8, 104#8, 101#8, 32#8, 108#8, 97#8, 122#8, 121#8, 32#8, 100#8, 111#8, 103#8]) 1 = 188#8 := by kernel_rfl
  have h2 : ath (mactag [107#8, 101#8, 121#8] [84#8, 104#8, 101#8, 32#8, 113#8, 117#8, 105#8, 99#8, 107#8, 32#8, 98#8, 114#8, 111#8, 119#8, 110#8, 32#8, 102#8, 111#8, 120#8, 32#8, 106#8, 117#8, 109#8, 112#8, 115#8, 32#8, 111#8, 118#8, 101#8, 114#8, 32#8, 116#8, 104#8, 101#8, 32#8, 108#8, 97#8, 122#8, 121#8, 32#8, 100#8, 111#8, 103#8]) 31 = 216#8 := by kernel_rfl
  intro x hx
  simp only [List.mem_cons, List.not_mem_nil, or_false] at hx
  rcases hx with rfl | rfl | rfl
  · exact h0
  · exact h1
  · exact h2
theorem mactag_sum (k t : List (BitVec 8)) (h : 64 < k.length) : mactag (shasum k) t = mactag k t := by
  rw [← mactag_long k t h, mactag_short (shasum k) t (by rw [shasum_len]; omega)]
theorem hpad_zeros (k : List (BitVec 8)) (x : BitVec 8) (m : Nat) : hpad (k ++ List.replicate m 0#8) x = hpad k x := by
  refine ext_ath (by rw [hpad_len, hpad_len]) (fun j hj => ?_)
  rw [hpad_len] at hj
  rw [hpad_at _ _ _ hj, hpad_at _ _ _ hj]
  by_cases h : j < k.length
  · rw [ath_app_l _ _ _ h]
  · rw [ath_app_r _ _ _ (by omega), ath_rep0, ath_out k j (by omega)]
theorem mactag_zeros (k t : List (BitVec 8)) (m : Nat) (h : k.length + m ≤ 64) : mactag (k ++ List.replicate m 0#8) t = mactag k t := by
  rw [← mactag_short k t (by omega), ← mactag_short _ t (by simp; omega), hpad_zeros, hpad_zeros]
theorem catp_one {A : Option Addr} {a b : Nat} {xs : List (BitVec 8)} : catp [⟨A, a, b, xs⟩] = xs := by simp [catp]
theorem catp_two {A B : Option Addr} {a b c d k : Nat} {xs : List (BitVec 8)} : catp [⟨A, a, b, List.take k xs⟩, ⟨B, c, d, List.drop k xs⟩] = xs := by simp [catp]

set_option maxHeartbeats 4000000 in
theorem awake3_f  (w : World) (hO : HOK [] w)  : Calls Try.prog 26 [].toArray w (Ret (T := Unit) [] w (fun _ => True) (fun _ => (.bool true)) (fun _ => [])) := by
  have hsl := mactag_len [107#8, 101#8, 121#8] [84#8, 104#8, 101#8, 32#8, 113#8, 117#8, 105#8, 99#8, 107#8, 32#8, 98#8, 114#8, 111#8, 119#8, 110#8, 32#8, 102#8, 111#8, 120#8, 32#8, 106#8, 117#8, 109#8, 112#8, 115#8, 32#8, 111#8, 118#8, 101#8, 114#8, 32#8, 116#8, 104#8, 101#8, 32#8, 108#8, 97#8, 122#8, 121#8, 32#8, 100#8, 111#8, 103#8]
  have hF : Wid Fence.wide := wid_wide
  refine enter (c := _) Try.func26 rfl [] [] [] (by rw [Try.ntmps26]; rfl) (own_rds hO rfl) ?_
  rw [Try.ntmps26]
  refine T_re [] sn ?_
  refine T_he [] [] ⟨by decide, rfl⟩ ?_
  refine T_seq ?_
  refine T_reg hF rfl ?_
  refine L_op rfl (op_pr (pr_assign rfl rfl) rfl rfl ?_)
  refine L_nil ?_
  refine T_re [] sn ?_
  refine T_he [] [] ⟨by decide, rfl⟩ ?_
  refine T_seq ?_
  refine T_reg hF rfl ?_
  refine L_op rfl (op_bslice (e := 5) (zs := [(b8 (107#8)), (b8 (101#8)), (b8 (121#8))]) (qs := [(0, (b8 (107#8))), (1, (b8 (101#8))), (2, (b8 (121#8)))]) (fun _ => by kernel_rfl) rfl rfl rfl rfl (fun g1 => ?_))
  refine L_op rfl (op_mark (zs := [(b8 (107#8)), (b8 (101#8)), (b8 (121#8))]) 0 rfl Try.underlying24 Try.underlying5 (by first | omega | (simp; done) | (simp; omega) | (simp [*]; done) | (simp [*]; omega)) (by first | omega | (simp; done) | (simp; omega) | (simp [*]; done) | (simp [*]; omega)) rfl rfl rfl rfl rfl rfl ?_)
  refine L_op rfl (op_bslice (e := 5) (zs := [(b8 (84#8)), (b8 (104#8)), (b8 (101#8)), (b8 (32#8)), (b8 (113#8)), (b8 (117#8)), (b8 (105#8)), (b8 (99#8)), (b8 (107#8)), (b8 (32#8)), (b8 (98#8)), (b8 (114#8)), (b8 (111#8)), (b8 (119#8)), (b8 (110#8)), (b8 (32#8)), (b8 (102#8)), (b8 (111#8)), (b8 (120#8)), (b8 (32#8)), (b8 (106#8)), (b8 (117#8)), (b8 (109#8)), (b8 (112#8)), (b8 (115#8)), (b8 (32#8)), (b8 (111#8)), (b8 (118#8)), (b8 (101#8)), (b8 (114#8)), (b8 (32#8)), (b8 (116#8)), (b8 (104#8)), (b8 (101#8)), (b8 (32#8)), (b8 (108#8)), (b8 (97#8)), (b8 (122#8)), (b8 (121#8)), (b8 (32#8)), (b8 (100#8)), (b8 (111#8)), (b8 (103#8))]) (qs := [(0, (b8 (84#8))), (1, (b8 (104#8))), (2, (b8 (101#8))), (3, (b8 (32#8))), (4, (b8 (113#8))), (5, (b8 (117#8))), (6, (b8 (105#8))), (7, (b8 (99#8))), (8, (b8 (107#8))), (9, (b8 (32#8))), (10, (b8 (98#8))), (11, (b8 (114#8))), (12, (b8 (111#8))), (13, (b8 (119#8))), (14, (b8 (110#8))), (15, (b8 (32#8))), (16, (b8 (102#8))), (17, (b8 (111#8))), (18, (b8 (120#8))), (19, (b8 (32#8))), (20, (b8 (106#8))), (21, (b8 (117#8))), (22, (b8 (109#8))), (23, (b8 (112#8))), (24, (b8 (115#8))), (25, (b8 (32#8))), (26, (b8 (111#8))), (27, (b8 (118#8))), (28, (b8 (101#8))), (29, (b8 (114#8))), (30, (b8 (32#8))), (31, (b8 (116#8))), (32, (b8 (104#8))), (33, (b8 (101#8))), (34, (b8 (32#8))), (35, (b8 (108#8))), (36, (b8 (97#8))), (37, (b8 (122#8))), (38, (b8 (121#8))), (39, (b8 (32#8))), (40, (b8 (100#8))), (41, (b8 (111#8))), (42, (b8 (103#8)))]) (fun _ => by kernel_rfl) rfl rfl rfl rfl (fun g2 => ?_))
  refine L_op rfl (op_mark (zs := [(b8 (84#8)), (b8 (104#8)), (b8 (101#8)), (b8 (32#8)), (b8 (113#8)), (b8 (117#8)), (b8 (105#8)), (b8 (99#8)), (b8 (107#8)), (b8 (32#8)), (b8 (98#8)), (b8 (114#8)), (b8 (111#8)), (b8 (119#8)), (b8 (110#8)), (b8 (32#8)), (b8 (102#8)), (b8 (111#8)), (b8 (120#8)), (b8 (32#8)), (b8 (106#8)), (b8 (117#8)), (b8 (109#8)), (b8 (112#8)), (b8 (115#8)), (b8 (32#8)), (b8 (111#8)), (b8 (118#8)), (b8 (101#8)), (b8 (114#8)), (b8 (32#8)), (b8 (116#8)), (b8 (104#8)), (b8 (101#8)), (b8 (32#8)), (b8 (108#8)), (b8 (97#8)), (b8 (122#8)), (b8 (121#8)), (b8 (32#8)), (b8 (100#8)), (b8 (111#8)), (b8 (103#8))]) 0 rfl Try.underlying24 Try.underlying5 (by first | omega | (simp; done) | (simp; omega) | (simp [*]; done) | (simp [*]; omega)) (by first | omega | (simp; done) | (simp; omega) | (simp [*]; done) | (simp [*]; omega)) rfl rfl rfl rfl rfl rfl ?_)
  refine L_op rfl (op_bslice (e := 24) (zs := [(.slice (some ⟨g2, 0, none⟩) 43 43)]) (qs := [(0, (.slice (some ⟨g2, 0, none⟩) 43 43))]) (fun _ => by kernel_rfl) rfl rfl rfl rfl (fun g3 => ?_))
  refine L_op rfl (op_call0 (vs := [(.slice (some ⟨g1, 0, none⟩) 3 3), (.slice (some ⟨g3, 0, none⟩) 1 1)]) (cap := []) (fun w hw => tag_f [107#8, 101#8, 121#8] (some ⟨g1, 0, none⟩) 3 3 ([(Pt.mk (some ⟨g2, 0, none⟩) 43 43 [84#8, 104#8, 101#8, 32#8, 113#8, 117#8, 105#8, 99#8, 107#8, 32#8, 98#8, 114#8, 111#8, 119#8, 110#8, 32#8, 102#8, 111#8, 120#8, 32#8, 106#8, 117#8, 109#8, 112#8, 115#8, 32#8, 111#8, 118#8, 101#8, 114#8, 32#8, 116#8, 104#8, 101#8, 32#8, 108#8, 97#8, 122#8, 121#8, 32#8, 100#8, 111#8, 103#8])]) (some ⟨g3, 0, none⟩) 1 1 w (hok_cons ((src_old 2 rfl) w hw) (hok_cons ((src_full (z := 1) 0 rfl rfl (by first | omega | (simp; done) | (simp; omega) | (simp [*]; done) | (simp [*]; omega)) (by first | omega | (simp; done) | (simp; omega) | (simp [*]; done) | (simp [*]; omega))) w hw) (hok_cons (all_cons ((src_old 1 rfl) w hw) (all_nil w)) (hok_nil w)))) (by first | assumption | omega | (simp; done) | (simp; omega)) (by first | omega | (simp; done) | (simp; omega) | (simp [*]; done) | (simp [*]; omega)) (by first | omega | (simp; done) | (simp; omega) | (simp [*]; done) | (simp [*]; omega)) (by first | omega | (simp; done) | (simp; omega) | (simp [*]; done) | (simp [*]; omega)) (by first | assumption | omega | (simp only [catp_cons, catp_nil, List.append_nil, List.length_append]; omega) | (simp [catp_cons, catp_nil]; done) | (simp [catp_cons, catp_nil]; omega))) (enters_of Try.func27 (by kernel_rfl) rfl) rfl rfl rfl rfl rfl (fun t4 q5 => ?_))
  refine T_slot 7 (.agg ((mactag [107#8, 101#8, 121#8] (catp ([(Pt.mk (some ⟨g2, 0, none⟩) 43 43 [84#8, 104#8, 101#8, 32#8, 113#8, 117#8, 105#8, 99#8, 107#8, 32#8, 98#8, 114#8, 111#8, 119#8, 110#8, 32#8, 102#8, 111#8, 120#8, 32#8, 106#8, 117#8, 109#8, 112#8, 115#8, 32#8, 111#8, 118#8, 101#8, 114#8, 32#8, 116#8, 104#8, 101#8, 32#8, 108#8, 97#8, 122#8, 121#8, 32#8, 100#8, 111#8, 103#8])]))).map b8).toArray) (.agg ((mactag [107#8, 101#8, 121#8] [84#8, 104#8, 101#8, 32#8, 113#8, 117#8, 105#8, 99#8, 107#8, 32#8, 98#8, 114#8, 111#8, 119#8, 110#8, 32#8, 102#8, 111#8, 120#8, 32#8, 106#8, 117#8, 109#8, 112#8, 115#8, 32#8, 111#8, 118#8, 101#8, 114#8, 32#8, 116#8, 104#8, 101#8, 32#8, 108#8, 97#8, 122#8, 121#8, 32#8, 100#8, 111#8, 103#8]).map b8).toArray) rfl (by rw [catp_one]) ?_
  refine L_op rfl (op_alloc (z := .agg ((List.replicate 32 0#8).map b8).toArray) (zs := ((List.replicate 32 0#8).map b8)) (by kernel_rfl) rfl rfl rfl rfl (fun g6 => ?_))
  refine L_op rfl (op_store (vs := ((mactag [107#8, 101#8, 121#8] [84#8, 104#8, 101#8, 32#8, 113#8, 117#8, 105#8, 99#8, 107#8, 32#8, 98#8, 114#8, 111#8, 119#8, 110#8, 32#8, 102#8, 111#8, 120#8, 32#8, 106#8, 117#8, 109#8, 112#8, 115#8, 32#8, 111#8, 118#8, 101#8, 114#8, 32#8, 116#8, 104#8, 101#8, 32#8, 108#8, 97#8, 122#8, 121#8, 32#8, 100#8, 111#8, 103#8]).map b8)) (cs' := ((mactag [107#8, 101#8, 121#8] [84#8, 104#8, 101#8, 32#8, 113#8, 117#8, 105#8, 99#8, 107#8, 32#8, 98#8, 114#8, 111#8, 119#8, 110#8, 32#8, 102#8, 111#8, 120#8, 32#8, 106#8, 117#8, 109#8, 112#8, 115#8, 32#8, 111#8, 118#8, 101#8, 114#8, 32#8, 116#8, 104#8, 101#8, 32#8, 108#8, 97#8, 122#8, 121#8, 32#8, 100#8, 111#8, 103#8]).map b8)) 0 rfl rfl (by rw [show (((mactag [107#8, 101#8, 121#8] [84#8, 104#8, 101#8, 32#8, 113#8, 117#8, 105#8, 99#8, 107#8, 32#8, 98#8, 114#8, 111#8, 119#8, 110#8, 32#8, 102#8, 111#8, 120#8, 32#8, 106#8, 117#8, 109#8, 112#8, 115#8, 32#8, 111#8, 118#8, 101#8, 114#8, 32#8, 116#8, 104#8, 101#8, 32#8, 108#8, 97#8, 122#8, 121#8, 32#8, 100#8, 111#8, 103#8]).map b8)).length = 32 from (by first | omega | (simp; done) | (simp; omega) | (simp [*]; done) | (simp [*]; omega))]; kernel_rfl) (all8_one _) (by have h1 : (((List.replicate 32 0#8).map b8)).length = 32 := (by kernel_rfl); have h2 : (((mactag [107#8, 101#8, 121#8] [84#8, 104#8, 101#8, 32#8, 113#8, 117#8, 105#8, 99#8, 107#8, 32#8, 98#8, 114#8, 111#8, 119#8, 110#8, 32#8, 102#8, 111#8, 120#8, 32#8, 106#8, 117#8, 109#8, 112#8, 115#8, 32#8, 111#8, 118#8, 101#8, 114#8, 32#8, 116#8, 104#8, 101#8, 32#8, 108#8, 97#8, 122#8, 121#8, 32#8, 100#8, 111#8, 103#8]).map b8)).length = 32 := (by first | omega | (simp; done) | (simp; omega) | (simp [*]; done) | (simp [*]; omega)); omega) (splice_all (Eq.trans (b := 32) (by kernel_rfl) (Eq.symm (by first | omega | (simp; done) | (simp; omega) | (simp [*]; done) | (simp [*]; omega))))) rfl rfl rfl rfl ?_)
  refine L_nil ?_
  refine T_re [(1, (.pointer (some ⟨g6, 0, none⟩)))] (sc rfl sn) ?_
  refine T_he [0, 1, 2, 3] [.blk g6 26 ((mactag [107#8, 101#8, 121#8] [84#8, 104#8, 101#8, 32#8, 113#8, 117#8, 105#8, 99#8, 107#8, 32#8, 98#8, 114#8, 111#8, 119#8, 110#8, 32#8, 102#8, 111#8, 120#8, 32#8, 106#8, 117#8, 109#8, 112#8, 115#8, 32#8, 111#8, 118#8, 101#8, 114#8, 32#8, 116#8, 104#8, 101#8, 32#8, 108#8, 97#8, 122#8, 121#8, 32#8, 100#8, 111#8, 103#8]).map b8), .blk g3 24 [(.slice (some ⟨g2, 0, none⟩) 43 43)], .old (some ⟨g2, 0, none⟩) 1 43 43 [(b8 (84#8)), (b8 (104#8)), (b8 (101#8)), (b8 (32#8)), (b8 (113#8)), (b8 (117#8)), (b8 (105#8)), (b8 (99#8)), (b8 (107#8)), (b8 (32#8)), (b8 (98#8)), (b8 (114#8)), (b8 (111#8)), (b8 (119#8)), (b8 (110#8)), (b8 (32#8)), (b8 (102#8)), (b8 (111#8)), (b8 (120#8)), (b8 (32#8)), (b8 (106#8)), (b8 (117#8)), (b8 (109#8)), (b8 (112#8)), (b8 (115#8)), (b8 (32#8)), (b8 (111#8)), (b8 (118#8)), (b8 (101#8)), (b8 (114#8)), (b8 (32#8)), (b8 (116#8)), (b8 (104#8)), (b8 (101#8)), (b8 (32#8)), (b8 (108#8)), (b8 (97#8)), (b8 (122#8)), (b8 (121#8)), (b8 (32#8)), (b8 (100#8)), (b8 (111#8)), (b8 (103#8))], .old (some ⟨g1, 0, none⟩) 1 3 3 [(b8 (107#8)), (b8 (101#8)), (b8 (121#8))]] ⟨by decide, rfl⟩ ?_
  refine T_seq ?_
  refine T_reg hF rfl ?_
  refine L_op rfl (op_pr (pr_ixa (j := 0) (m' := 0) (by first | omega | (simp; done) | (simp; omega) | (simp [*]; done) | (simp [*]; omega)) (by omega) Try.underlying26 (z := 1) (by kernel_rfl) rfl rfl rfl) rfl rfl ?_)
  refine L_op rfl (op_ld (ld_blk 0 rfl (get8 (by first | omega | (simp; done) | (simp; omega) | (simp [*]; done) | (simp [*]; omega))) Try.underlying5 rfl rfl rfl) rfl rfl ?_)
  refine L_op rfl (op_pr (pr_cmp (bo := .eql) (n8_beq (ath (mactag [107#8, 101#8, 121#8] [84#8, 104#8, 101#8, 32#8, 113#8, 117#8, 105#8, 99#8, 107#8, 32#8, 98#8, 114#8, 111#8, 119#8, 110#8, 32#8, 102#8, 111#8, 120#8, 32#8, 106#8, 117#8, 109#8, 112#8, 115#8, 32#8, 111#8, 118#8, 101#8, 114#8, 32#8, 116#8, 104#8, 101#8, 32#8, 108#8, 97#8, 122#8, 121#8, 32#8, 100#8, 111#8, 103#8]) 0) (247#8)) rfl rfl rfl rfl) rfl rfl ?_)
  refine L_op rfl (op_pr (pr_move rfl rfl) rfl rfl ?_)
  refine T_slot 11 (.bool ((ath (mactag [107#8, 101#8, 121#8] [84#8, 104#8, 101#8, 32#8, 113#8, 117#8, 105#8, 99#8, 107#8, 32#8, 98#8, 114#8, 111#8, 119#8, 110#8, 32#8, 102#8, 111#8, 120#8, 32#8, 106#8, 117#8, 109#8, 112#8, 115#8, 32#8, 111#8, 118#8, 101#8, 114#8, 32#8, 116#8, 104#8, 101#8, 32#8, 108#8, 97#8, 122#8, 121#8, 32#8, 100#8, 111#8, 103#8]) 0) == 247#8)) (.bool true) rfl (congrArg _ (by rw [fox_at (0, 247#8) (by simp)]; rfl)) ?_
  refine L_op rfl (op_pr (pr_ixa (j := 1) (m' := 1) (by first | omega | (simp; done) | (simp; omega) | (simp [*]; done) | (simp [*]; omega)) (by omega) Try.underlying26 (z := 1) (by kernel_rfl) rfl rfl rfl) rfl rfl ?_)
  refine L_op rfl (op_ld (ld_blk 0 rfl (get8 (by first | omega | (simp; done) | (simp; omega) | (simp [*]; done) | (simp [*]; omega))) Try.underlying5 rfl rfl rfl) rfl rfl ?_)
  refine L_op rfl (op_pr (pr_cmp (bo := .eql) (n8_beq (ath (mactag [107#8, 101#8, 121#8] [84#8, 104#8, 101#8, 32#8, 113#8, 117#8, 105#8, 99#8, 107#8, 32#8, 98#8, 114#8, 111#8, 119#8, 110#8, 32#8, 102#8, 111#8, 120#8, 32#8, 106#8, 117#8, 109#8, 112#8, 115#8, 32#8, 111#8, 118#8, 101#8, 114#8, 32#8, 116#8, 104#8, 101#8, 32#8, 108#8, 97#8, 122#8, 121#8, 32#8, 100#8, 111#8, 103#8]) 1) (188#8)) rfl rfl rfl rfl) rfl rfl ?_)
  refine L_op rfl (op_pr (pr_pick_t rfl rfl rfl) rfl rfl ?_)
  refine L_op rfl (op_pr (pr_move rfl rfl) rfl rfl ?_)
  refine T_slot 16 (.bool ((ath (mactag [107#8, 101#8, 121#8] [84#8, 104#8, 101#8, 32#8, 113#8, 117#8, 105#8, 99#8, 107#8, 32#8, 98#8, 114#8, 111#8, 119#8, 110#8, 32#8, 102#8, 111#8, 120#8, 32#8, 106#8, 117#8, 109#8, 112#8, 115#8, 32#8, 111#8, 118#8, 101#8, 114#8, 32#8, 116#8, 104#8, 101#8, 32#8, 108#8, 97#8, 122#8, 121#8, 32#8, 100#8, 111#8, 103#8]) 1) == 188#8)) (.bool true) rfl (congrArg _ (by rw [fox_at (1, 188#8) (by simp)]; rfl)) ?_
  refine L_op rfl (op_pr (pr_ixa (j := 31) (m' := 31) (by first | omega | (simp; done) | (simp; omega) | (simp [*]; done) | (simp [*]; omega)) (by omega) Try.underlying26 (z := 1) (by kernel_rfl) rfl rfl rfl) rfl rfl ?_)
  refine L_op rfl (op_ld (ld_blk 0 rfl (get8 (by first | omega | (simp; done) | (simp; omega) | (simp [*]; done) | (simp [*]; omega))) Try.underlying5 rfl rfl rfl) rfl rfl ?_)
  refine L_op rfl (op_pr (pr_cmp (bo := .eql) (n8_beq (ath (mactag [107#8, 101#8, 121#8] [84#8, 104#8, 101#8, 32#8, 113#8, 117#8, 105#8, 99#8, 107#8, 32#8, 98#8, 114#8, 111#8, 119#8, 110#8, 32#8, 102#8, 111#8, 120#8, 32#8, 106#8, 117#8, 109#8, 112#8, 115#8, 32#8, 111#8, 118#8, 101#8, 114#8, 32#8, 116#8, 104#8, 101#8, 32#8, 108#8, 97#8, 122#8, 121#8, 32#8, 100#8, 111#8, 103#8]) 31) (216#8)) rfl rfl rfl rfl) rfl rfl ?_)
  refine L_op rfl (op_pr (pr_pick_t rfl rfl rfl) rfl rfl ?_)
  refine L_op rfl (op_pr (pr_assign rfl rfl) rfl rfl ?_)
  refine L_nil ?_
  refine T_re [(0, (.bool ((ath (mactag [107#8, 101#8, 121#8] [84#8, 104#8, 101#8, 32#8, 113#8, 117#8, 105#8, 99#8, 107#8, 32#8, 98#8, 114#8, 111#8, 119#8, 110#8, 32#8, 102#8, 111#8, 120#8, 32#8, 106#8, 117#8, 109#8, 112#8, 115#8, 32#8, 111#8, 118#8, 101#8, 114#8, 32#8, 116#8, 104#8, 101#8, 32#8, 108#8, 97#8, 122#8, 121#8, 32#8, 100#8, 111#8, 103#8]) 31) == 216#8)))] (sc rfl sn) ?_
  refine T_he [0, 1, 2, 3] [.blk g6 26 ((mactag [107#8, 101#8, 121#8] [84#8, 104#8, 101#8, 32#8, 113#8, 117#8, 105#8, 99#8, 107#8, 32#8, 98#8, 114#8, 111#8, 119#8, 110#8, 32#8, 102#8, 111#8, 120#8, 32#8, 106#8, 117#8, 109#8, 112#8, 115#8, 32#8, 111#8, 118#8, 101#8, 114#8, 32#8, 116#8, 104#8, 101#8, 32#8, 108#8, 97#8, 122#8, 121#8, 32#8, 100#8, 111#8, 103#8]).map b8), .blk g3 24 [(.slice (some ⟨g2, 0, none⟩) 43 43)], .old (some ⟨g2, 0, none⟩) 1 43 43 [(b8 (84#8)), (b8 (104#8)), (b8 (101#8)), (b8 (32#8)), (b8 (113#8)), (b8 (117#8)), (b8 (105#8)), (b8 (99#8)), (b8 (107#8)), (b8 (32#8)), (b8 (98#8)), (b8 (114#8)), (b8 (111#8)), (b8 (119#8)), (b8 (110#8)), (b8 (32#8)), (b8 (102#8)), (b8 (111#8)), (b8 (120#8)), (b8 (32#8)), (b8 (106#8)), (b8 (117#8)), (b8 (109#8)), (b8 (112#8)), (b8 (115#8)), (b8 (32#8)), (b8 (111#8)), (b8 (118#8)), (b8 (101#8)), (b8 (114#8)), (b8 (32#8)), (b8 (116#8)), (b8 (104#8)), (b8 (101#8)), (b8 (32#8)), (b8 (108#8)), (b8 (97#8)), (b8 (122#8)), (b8 (121#8)), (b8 (32#8)), (b8 (100#8)), (b8 (111#8)), (b8 (103#8))], .old (some ⟨g1, 0, none⟩) 1 3 3 [(b8 (107#8)), (b8 (101#8)), (b8 (121#8))]] ⟨by decide, rfl⟩ ?_
  refine T_ret ?_
  refine T_slot 0 (.bool ((ath (mactag [107#8, 101#8, 121#8] [84#8, 104#8, 101#8, 32#8, 113#8, 117#8, 105#8, 99#8, 107#8, 32#8, 98#8, 114#8, 111#8, 119#8, 110#8, 32#8, 102#8, 111#8, 120#8, 32#8, 106#8, 117#8, 109#8, 112#8, 115#8, 32#8, 111#8, 118#8, 101#8, 114#8, 32#8, 116#8, 104#8, 101#8, 32#8, 108#8, 97#8, 122#8, 121#8, 32#8, 100#8, 111#8, 103#8]) 31) == 216#8)) (.bool true) rfl (by rw [fox_at (31, 216#8) (by simp)]; rfl) ?_
  exact T_fin () (by first | trivial | omega | (simp; done)) (res1 rfl rfl) [] ⟨by decide, rfl⟩ rfl
set_option maxHeartbeats 4000000 in
theorem macTags_f (xs : List (BitVec 8)) (A : Option Addr) (n : Nat) (c : Nat) (Q : List Pt) (B : Option Addr) (nq : Nat) (d : Nat) (w : World) (hO : HOK [.rd A 1 n c (xs.map b8), .rd B 1 nq d (Q.map Pt.sl), .all Q] w) (hx : xs.length = n) (hq : Q.length = nq) : Calls Try.prog 8 [(.slice A n c), (.slice B nq d)].toArray w (Ret (T := Unit) [] w (fun _ => True) (fun _ => (.bool true)) (fun _ => [])) := by
  have hml := mactag_len xs (catp Q)
  have hF : Wid Fence.wide := wid_wide
  refine enter (c := _) Try.func8 rfl [] [(.slice A n c), (.slice B nq d)] [.rd A 1 n c (xs.map b8), .rd B 1 nq d (Q.map Pt.sl), .all Q] (by rw [Try.ntmps8]; rfl) (own_rds hO rfl) ?_
  rw [Try.ntmps8]
  refine T_re [(0, (.slice A n c)), (1, (.slice B nq d))] (sc rfl (sc rfl sn)) ?_
  refine T_he [0, 1, 2] [.rd A 1 n c (xs.map b8), .rd B 1 nq d (Q.map Pt.sl), .all Q] ⟨by decide, rfl⟩ ?_
  refine T_seq ?_
  refine T_reg hF rfl ?_
  refine L_op rfl (op_pr (pr_assign rfl rfl) rfl rfl ?_)
  refine L_nil ?_
  refine T_re [(0, (.slice A n c)), (1, (.slice B nq d))] (sc rfl (sc rfl sn)) ?_
  refine T_he [0, 1, 2] [.rd A 1 n c (xs.map b8), .rd B 1 nq d (Q.map Pt.sl), .all Q] ⟨by decide, rfl⟩ ?_
  refine T_seq ?_
  refine T_seq ?_
  refine T_reg hF rfl ?_
  refine L_op rfl (op_pr (pr_move rfl rfl) rfl rfl ?_)
  refine L_op rfl (op_pr (pr_len_sl Try.underlying24 rfl rfl) rfl rfl ?_)
  refine L_op rfl (op_pr (pr_cmp (bo := .gtr) (nc_lt (a := 1000) (b := n)) rfl rfl rfl rfl) rfl rfl ?_)
  refine L_op rfl (op_pr (pr_move rfl rfl) rfl rfl ?_)
  rcases Bool.eq_false_or_eq_true (decide (1000 < n)) with hc_1 | hc_1
  · skip
    refine T_slot 11 (.bool (decide (1000 < n))) (.bool true) rfl (congrArg _ hc_1) ?_
    refine T_slot 10 (.bool (decide (1000 < n))) (.bool true) rfl (congrArg _ hc_1) ?_
    have hc_1 := of_decide_eq_true hc_1
    refine L_skip rfl rfl rfl ?_
    refine L_skip rfl rfl rfl ?_
    refine L_skip rfl rfl rfl ?_
    refine L_op rfl (op_pr (pr_pick_t rfl rfl rfl) rfl rfl ?_)
    refine L_nil ?_
    refine T_re [(0, (.slice A n c)), (1, (.slice B nq d)), (15, (.bool true))] (sc rfl (sc rfl (sc rfl sn))) ?_
    refine T_he [0, 1, 2] [.rd A 1 n c (xs.map b8), .rd B 1 nq d (Q.map Pt.sl), .all Q] ⟨by decide, rfl⟩ ?_
    refine T_cond_t rfl ?_
    refine T_seq ?_
    refine T_reg hF rfl ?_
    refine L_op rfl (op_call0 (vs := []) (cap := []) (fun w hw => awake3_f  w (hok_nil w) ) (enters_of Try.func26 (by kernel_rfl) rfl) rfl rfl rfl rfl rfl (fun t2 q3 => ?_))
    refine L_op rfl (op_pr (pr_assign rfl rfl) rfl rfl ?_)
    refine L_nil ?_
    refine T_re [(4, (.bool true))] (sc rfl sn) ?_
    refine T_he [0, 1, 2] [.rd A 1 n c (xs.map b8), .rd B 1 nq d (Q.map Pt.sl), .all Q] ⟨by decide, rfl⟩ ?_
    refine T_ret ?_
    exact T_fin () (by first | trivial | omega | (simp; done)) (res1 rfl rfl) [] ⟨by decide, rfl⟩ rfl
  · skip
    refine T_slot 11 (.bool (decide (1000 < n))) (.bool false) rfl (congrArg _ hc_1) ?_
    refine T_slot 10 (.bool (decide (1000 < n))) (.bool false) rfl (congrArg _ hc_1) ?_
    have hc_1 := of_decide_eq_false hc_1
    refine L_op rfl (op_pr (pr_move rfl rfl) rfl rfl ?_)
    refine L_op rfl (op_pr (pr_len_sl Try.underlying22 rfl rfl) rfl rfl ?_)
    refine L_op rfl (op_pr (pr_cmp (bo := .gtr) (nc_lt (a := 20) (b := nq)) rfl rfl rfl rfl) rfl rfl ?_)
    refine L_op rfl (op_pr (pr_pick_f rfl rfl rfl) rfl rfl ?_)
    refine L_nil ?_
    refine T_re [(0, (.slice A n c)), (1, (.slice B nq d)), (15, (.bool (decide (20 < nq))))] (sc rfl (sc rfl (sc rfl sn))) ?_
    refine T_he [0, 1, 2] [.rd A 1 n c (xs.map b8), .rd B 1 nq d (Q.map Pt.sl), .all Q] ⟨by decide, rfl⟩ ?_
    refine T_cond (decide (20 < nq)) rfl (fun hc_4 => ?_) (fun hc_4 => ?_)
    · skip
      have hc_4 := of_decide_eq_true hc_4
      refine T_seq ?_
      refine T_reg hF rfl ?_
      refine L_op rfl (op_call0 (vs := []) (cap := []) (fun w hw => awake3_f  w (hok_nil w) ) (enters_of Try.func26 (by kernel_rfl) rfl) rfl rfl rfl rfl rfl (fun t5 q6 => ?_))
      refine L_op rfl (op_pr (pr_assign rfl rfl) rfl rfl ?_)
      refine L_nil ?_
      refine T_re [(4, (.bool true))] (sc rfl sn) ?_
      refine T_he [0, 1, 2] [.rd A 1 n c (xs.map b8), .rd B 1 nq d (Q.map Pt.sl), .all Q] ⟨by decide, rfl⟩ ?_
      refine T_ret ?_
      exact T_fin () (by first | trivial | omega | (simp; done)) (res1 rfl rfl) [] ⟨by decide, rfl⟩ rfl
    · skip
      have hc_4 := of_decide_eq_false hc_4
      refine T_skip ?_
      refine T_seq ?_
      refine T_reg hF rfl ?_
      refine L_op rfl (op_pr (pr_assign rfl rfl) rfl rfl ?_)
      refine L_nil ?_
      refine T_re [(0, (.slice A n c)), (1, (.slice B nq d)), (5, (.slice none 0 0))] (sc rfl (sc rfl (sc rfl sn))) ?_
      refine T_he [0, 1, 2] [.rd A 1 n c (xs.map b8), .rd B 1 nq d (Q.map Pt.sl), .all Q] ⟨by decide, rfl⟩ ?_
      refine T_seq ?_
      refine T_seq ?_
      refine T_reg hF rfl ?_
      refine L_op rfl (op_pr (pr_assign rfl rfl) rfl rfl ?_)
      refine L_nil ?_
      refine T_re [(0, (.slice A n c)), (1, (.slice B nq d)), (5, (.slice none 0 0)), (6, (.int .i64 ((0 : Nat) : Int)))] (sc rfl (sc rfl (sc rfl (sc rfl sn)))) ?_
      refine T_he [0, 1, 2] [.rd A 1 n c (xs.map b8), .rd B 1 nq d (Q.map Pt.sl), .all Q] ⟨by decide, rfl⟩ ?_
      refine T_block ?_
      refine T_slot 5 (.slice none 0 0) (.slice none ((catp (Q.take 0)).length) 0) rfl (rfl) ?_
      refine T_nilrow 5 1 ?_
      refine T_as 0 (.row (.slice none 0 0) 5 1 0 []) (.row (.slice none ((catp (Q.take 0)).length) 0) 5 1 ((catp (Q.take 0)).length) ((catp (Q.take 0)).map b8)) rfl (rfl) ?_
      refine T_loop (T := Nat × Option Addr × Nat) (fun ⟨k, A1, c1⟩ => k ≤ nq ∧ (catp (Q.take k)).length ≤ 1000 * k) (fun ⟨k, A1, c1⟩ => [(0, (.slice A n c)), (1, (.slice B nq d)), (5, (.slice A1 ((catp (Q.take k)).length) c1)), (6, (.int .i64 ((k : Nat) : Int)))]) (fun ⟨k, A1, c1⟩ => [.row (.slice A1 ((catp (Q.take k)).length) c1) 5 1 ((catp (Q.take k)).length) ((catp (Q.take k)).map b8), .rd A 1 n c (xs.map b8), .rd B 1 nq d (Q.map Pt.sl), .all Q]) (fun ⟨k, A1, c1⟩ => nq - k) (0, none, 0) (by simp [catp]) (sc rfl (sc rfl (sc rfl (sc rfl sn)))) [0, 1, 2, 3] ⟨by decide, rfl⟩ ?_
      rintro ⟨k, A1, c1⟩ hp
      have hp : k ≤ nq ∧ (catp (Q.take k)).length ≤ 1000 * k := hp
      have hle := catp_le Q k
      have hct : k < nq → (catp (Q.take (k + 1))).length = (catp (Q.take k)).length + (pat Q k).xs.length := fun h => by rw [catp_take (by omega), List.length_append]
      refine T_re [(0, (.slice A n c)), (1, (.slice B nq d)), (5, (.slice A1 ((catp (Q.take k)).length) c1)), (6, (.int .i64 ((k : Nat) : Int)))] (sc rfl (sc rfl (sc rfl (sc rfl sn)))) ?_
      refine T_he [0, 1, 2, 3] [.row (.slice A1 ((catp (Q.take k)).length) c1) 5 1 ((catp (Q.take k)).length) ((catp (Q.take k)).map b8), .rd A 1 n c (xs.map b8), .rd B 1 nq d (Q.map Pt.sl), .all Q] ⟨by decide, rfl⟩ ?_
      refine T_seq ?_
      refine T_seq ?_
      refine T_reg hF rfl ?_
      refine L_op rfl (op_pr (pr_move rfl rfl) rfl rfl ?_)
      refine L_op rfl (op_pr (pr_move rfl rfl) rfl rfl ?_)
      refine L_op rfl (op_pr (pr_len_sl Try.underlying22 rfl rfl) rfl rfl ?_)
      refine L_op rfl (op_pr (pr_cmp (bo := .lss) (nc_lt (a := k) (b := nq)) rfl rfl rfl rfl) rfl rfl ?_)
      refine L_nil ?_
      refine T_re [(0, (.slice A n c)), (1, (.slice B nq d)), (5, (.slice A1 ((catp (Q.take k)).length) c1)), (6, (.int .i64 ((k : Nat) : Int))), (20, (.bool (decide (k < nq))))] (sc rfl (sc rfl (sc rfl (sc rfl (sc rfl sn))))) ?_
      refine T_he [0, 1, 2, 3] [.row (.slice A1 ((catp (Q.take k)).length) c1) 5 1 ((catp (Q.take k)).length) ((catp (Q.take k)).map b8), .rd A 1 n c (xs.map b8), .rd B 1 nq d (Q.map Pt.sl), .all Q] ⟨by decide, rfl⟩ ?_
      refine T_cond (decide (k < nq)) rfl (fun hc_7 => ?_) (fun hc_7 => ?_)
      · skip
        have hc_7 := of_decide_eq_true hc_7
        refine T_skip ?_
        refine T_seq ?_
        refine T_block ?_
        refine T_seq ?_
        refine T_seq ?_
        refine T_reg hF rfl ?_
        refine L_op rfl (op_pr (pr_move rfl rfl) rfl rfl ?_)
        refine L_op rfl (op_pr (pr_move rfl rfl) rfl rfl ?_)
        refine L_op rfl (op_pr (pr_ixs1 (j := k) (src_none (src_rd 2 rfl)) (by first | omega | (simp; done) | (simp; omega) | (simp [*]; done) | (simp [*]; omega)) Try.underlying22 (by kernel_rfl) rfl rfl rfl) rfl rfl ?_)
        refine L_op rfl (op_ld (ld_src (m := k) (src_rd 2 rfl) (pat_get (by first | omega | (simp; done) | (simp; omega) | (simp [*]; done) | (simp [*]; omega))) Try.underlying24 rfl rfl rfl) rfl rfl ?_)
        refine T_ofall 3 rfl (pat_mem (L := Q) (j := k) (by first | omega | (simp; done) | (simp; omega) | (simp [*]; done) | (simp [*]; omega))) (fun hl_8 hm_9 => ?_)
        refine L_op rfl (op_pr (pr_len_sl Try.underlying24 rfl rfl) rfl rfl ?_)
        refine L_op rfl (op_pr (pr_cmp (bo := .gtr) (nc_lt (a := 1000) (b := (pat Q k).n)) rfl rfl rfl rfl) rfl rfl ?_)
        refine L_nil ?_
        refine T_re [(0, (.slice A n c)), (1, (.slice B nq d)), (5, (.slice A1 ((catp (Q.take k)).length) c1)), (6, (.int .i64 ((k : Nat) : Int))), (28, (.bool (decide (1000 < (pat Q k).n))))] (sc rfl (sc rfl (sc rfl (sc rfl (sc rfl sn))))) ?_
        refine T_he [0, 1, 2, 3, 4] [.rd ((pat Q k).A) 1 ((pat Q k).n) ((pat Q k).c) (((pat Q k).xs).map b8), .row (.slice A1 ((catp (Q.take k)).length) c1) 5 1 ((catp (Q.take k)).length) ((catp (Q.take k)).map b8), .rd A 1 n c (xs.map b8), .rd B 1 nq d (Q.map Pt.sl), .all Q] ⟨by decide, rfl⟩ ?_
        refine T_cond (decide (1000 < (pat Q k).n)) rfl (fun hc_10 => ?_) (fun hc_10 => ?_)
        · skip
          have hc_10 := of_decide_eq_true hc_10
          refine T_seq ?_
          refine T_reg hF rfl ?_
          refine L_op rfl (op_call0 (vs := []) (cap := []) (fun w hw => awake3_f  w (hok_nil w) ) (enters_of Try.func26 (by kernel_rfl) rfl) rfl rfl rfl rfl rfl (fun t11 q12 => ?_))
          refine L_op rfl (op_pr (pr_assign rfl rfl) rfl rfl ?_)
          refine L_nil ?_
          refine T_re [(4, (.bool true))] (sc rfl sn) ?_
          refine T_he [0, 1, 2, 3, 4] [.rd ((pat Q k).A) 1 ((pat Q k).n) ((pat Q k).c) (((pat Q k).xs).map b8), .row (.slice A1 ((catp (Q.take k)).length) c1) 5 1 ((catp (Q.take k)).length) ((catp (Q.take k)).map b8), .rd A 1 n c (xs.map b8), .rd B 1 nq d (Q.map Pt.sl), .all Q] ⟨by decide, rfl⟩ ?_
          refine T_ret ?_
          exact T_fin () (by first | trivial | omega | (simp; done)) (res1 rfl rfl) [] ⟨by decide, rfl⟩ rfl
        · skip
          have hc_10 := of_decide_eq_false hc_10
          refine T_skip ?_
          refine T_reg hF rfl ?_
          refine L_op rfl (op_pr (pr_move rfl rfl) rfl rfl ?_)
          refine L_op rfl (op_pr (pr_move rfl rfl) rfl rfl ?_)
          refine L_op rfl (op_pr (pr_move rfl rfl) rfl rfl ?_)
          refine L_op rfl (op_pr (pr_ixs1 (j := k) (src_none (src_rd 3 rfl)) (by first | omega | (simp; done) | (simp; omega) | (simp [*]; done) | (simp [*]; omega)) Try.underlying22 (by kernel_rfl) rfl rfl rfl) rfl rfl ?_)
          refine L_op rfl (op_ld (ld_src (m := k) (src_rd 3 rfl) (pat_get (by first | omega | (simp; done) | (simp; omega) | (simp [*]; done) | (simp [*]; omega))) Try.underlying24 rfl rfl rfl) rfl rfl ?_)
          refine L_op rfl (op_append (z := (b8 (0#8))) (size := 1) (bytes := 1) 1 rfl Try.underlying24 (by kernel_rfl) (by kernel_rfl) (by decide) (src_rd 0 rfl) (all8_one _) (by first | omega | (simp; done) | (simp; omega) | (simp [*]; done) | (simp [*]; omega)) (by first | omega | (simp; done) | (simp; omega) | (simp [*]; done) | (simp [*]; omega)) rfl rfl rfl rfl rfl (fun A13 C14 => ?_))
          refine T_as 0 (.row (.slice A13 ((catp (Q.take k)).length + (pat Q k).n) C14) 5 1 ((catp (Q.take k)).length + (pat Q k).n) (((catp (Q.take k)).map b8) ++ (((pat Q k).xs).map b8))) (.row (.slice A13 ((catp (Q.take k)).length + ((pat Q k).n)) C14) 5 1 ((catp (Q.take k)).length + ((pat Q k).n)) (((catp (Q.take k)) ++ (pat Q k).xs).map b8)) rfl (by first | rfl | (congr 1; simp; done) | (simp only [List.map_append]; rfl) | (rw [List.map_append]; rfl)) ?_
          refine T_slot 35 (.slice A13 ((catp (Q.take k)).length + (pat Q k).n) C14) (.slice A13 ((catp (Q.take k)).length + ((pat Q k).n)) C14) rfl rfl ?_
          refine L_op rfl (op_pr (pr_assign rfl rfl) rfl rfl ?_)
          refine L_nil ?_
          refine T_re [(0, (.slice A n c)), (1, (.slice B nq d)), (5, (.slice A13 ((catp (Q.take k)).length + ((pat Q k).n)) C14)), (6, (.int .i64 ((k : Nat) : Int)))] (sc rfl (sc rfl (sc rfl (sc rfl sn)))) ?_
          refine T_he [0, 1, 2, 3, 4] [.row (.slice A13 ((catp (Q.take k)).length + ((pat Q k).n)) C14) 5 1 ((catp (Q.take k)).length + ((pat Q k).n)) (((catp (Q.take k)) ++ (pat Q k).xs).map b8), .rd ((pat Q k).A) 1 ((pat Q k).n) ((pat Q k).c) (((pat Q k).xs).map b8), .rd A 1 n c (xs.map b8), .rd B 1 nq d (Q.map Pt.sl), .all Q] ⟨by decide, rfl⟩ ?_
          refine T_reg hF rfl ?_
          refine L_op rfl (op_pr (pr_move rfl rfl) rfl rfl ?_)
          refine L_op rfl (op_pr (pr_add (na_i64 (a := k) (b := 1) (by first | omega | (simp; done) | (simp; omega) | (simp [*]; done) | (simp [*]; omega))) rfl rfl rfl) rfl rfl ?_)
          refine L_op rfl (op_pr (pr_assign rfl rfl) rfl rfl ?_)
          refine L_nil ?_
          refine T_re [(0, (.slice A n c)), (1, (.slice B nq d)), (5, (.slice A13 ((catp (Q.take k)).length + ((pat Q k).n)) C14)), (6, (.int .i64 ((k + 1 : Nat) : Int)))] (sc rfl (sc rfl (sc rfl (sc rfl sn)))) ?_
          refine T_he [0, 1, 2, 3, 4] [.row (.slice A13 ((catp (Q.take k)).length + ((pat Q k).n)) C14) 5 1 ((catp (Q.take k)).length + ((pat Q k).n)) (((catp (Q.take k)) ++ (pat Q k).xs).map b8), .rd ((pat Q k).A) 1 ((pat Q k).n) ((pat Q k).c) (((pat Q k).xs).map b8), .rd A 1 n c (xs.map b8), .rd B 1 nq d (Q.map Pt.sl), .all Q] ⟨by decide, rfl⟩ ?_
          refine T_slot 5 (.slice A13 ((catp (Q.take k)).length + ((pat Q k).n)) C14) (.slice A13 ((catp (Q.take (k + 1))).length) C14) rfl (by rw [hct (by assumption)]; congr 1; omega) ?_
          refine T_as 0 (.row (.slice A13 ((catp (Q.take k)).length + ((pat Q k).n)) C14) 5 1 ((catp (Q.take k)).length + ((pat Q k).n)) (((catp (Q.take k)) ++ (pat Q k).xs).map b8)) (.row (.slice A13 ((catp (Q.take (k + 1))).length) C14) 5 1 ((catp (Q.take (k + 1))).length) ((catp (Q.take (k + 1))).map b8)) rfl (by rw [catp_take (by omega), List.length_append]; congr 1 <;> simp <;> omega) ?_
          exact T_again (k + 1, A13, C14) (by simp only [hct (by assumption)]; omega) (by first | trivial | ((try dsimp only); first | omega | (refine ⟨?_, ?_⟩ <;> omega) | (refine ⟨?_, ?_, ?_⟩ <;> omega) | (simp; done) | (simp; omega))) (sc rfl (sc rfl (sc rfl (sc rfl sn)))) [0, 2, 3, 4] ⟨by decide, rfl⟩
      · skip
        have hc_7 := of_decide_eq_false hc_7
        refine T_exit rfl ?_
        obtain rfl : nq = k := by omega
        have hfull : Q.take nq = Q := List.take_of_length_le (by omega)
        have hcl : (catp Q).length ≤ 1000 * nq := by have h9 := hp.2; rw [hfull] at h9; exact h9
        refine T_slot 5 (.slice A1 ((catp (Q.take nq)).length) c1) (.slice A1 ((catp Q).length) c1) rfl (by rw [hfull]) ?_
        refine T_as 0 (.row (.slice A1 ((catp (Q.take nq)).length) c1) 5 1 ((catp (Q.take nq)).length) ((catp (Q.take nq)).map b8)) (.row (.slice A1 ((catp Q).length) c1) 5 1 ((catp Q).length) ((catp Q).map b8)) rfl (by rw [hfull]) ?_
        refine T_seq ?_
        refine T_reg hF rfl ?_
        refine L_op rfl (op_pr (pr_move rfl rfl) rfl rfl ?_)
        refine L_op rfl (op_call0 (vs := [(.slice A n c), (b8 (71#8))]) (cap := []) (fun w hw => own_f xs (71#8) A n c w (hok_cons ((src_rd 1 rfl) w hw) (hok_nil w)) (by first | omega | (simp; done) | (simp; omega) | (simp [*]; done) | (simp [*]; omega)) (by first | omega | (simp; done) | (simp; omega) | (simp [*]; done) | (simp [*]; omega))) (enters_of Try.func16 (by kernel_rfl) rfl) rfl rfl rfl rfl rfl (fun t15 q16 => ?_))
        obtain ⟨B17, d18⟩ := t15
        have q16 : n + 3 ≤ d18 := q16
        refine L_op rfl (op_pr (pr_assign rfl rfl) rfl rfl ?_)
        refine L_nil ?_
        refine T_re [(0, (.slice A n c)), (1, (.slice B nq d)), (5, (.slice A1 ((catp Q).length) c1)), (7, (.slice B17 n d18))] (sc rfl (sc rfl (sc rfl (sc rfl sn)))) ?_
        refine T_he [0, 1, 2, 3, 4, 5] [.old B17 1 (n + 3) d18 ((xs ++ [(71#8), (71#8), (71#8)]).map b8), .old B17 1 n d18 (xs.map b8), .row (.slice A1 ((catp Q).length) c1) 5 1 ((catp Q).length) ((catp Q).map b8), .rd A 1 n c (xs.map b8), .rd B 1 nq d (Q.map Pt.sl), .all Q] ⟨by decide, rfl⟩ ?_
        refine T_seq ?_
        refine T_reg hF rfl ?_
        refine L_op rfl (op_call0 (vs := []) (cap := []) (fun w hw => awake3_f  w (hok_nil w) ) (enters_of Try.func26 (by kernel_rfl) rfl) rfl rfl rfl rfl rfl (fun t19 q20 => ?_))
        refine L_op rfl (op_pr (pr_move rfl rfl) rfl rfl ?_)
        refine L_op rfl (op_pr (pr_move rfl rfl) rfl rfl ?_)
        refine L_op rfl (op_pr (pr_move rfl rfl) rfl rfl ?_)
        refine L_op rfl (op_call0 (vs := [(.slice B17 n d18), (.slice B nq d)]) (cap := []) (fun w hw => tag_f xs B17 n d18 Q B nq d w (hok_cons ((src_old 1 rfl) w hw) (hok_cons ((src_rd 4 rfl) w hw) (hok_cons (hw _ (List.mem_of_getElem? (i := 5) rfl)) (hok_nil w)))) (by first | assumption | omega | (simp; done) | (simp; omega)) (by first | omega | (simp; done) | (simp; omega) | (simp [*]; done) | (simp [*]; omega)) (by first | omega | (simp; done) | (simp; omega) | (simp [*]; done) | (simp [*]; omega)) (by first | omega | (simp; done) | (simp; omega) | (simp [*]; done) | (simp [*]; omega)) (by first | assumption | omega | (simp only [catp_cons, catp_nil, List.append_nil, List.length_append]; omega) | (simp [catp_cons, catp_nil]; done) | (simp [catp_cons, catp_nil]; omega))) (enters_of Try.func27 (by kernel_rfl) rfl) rfl rfl rfl rfl rfl (fun t21 q22 => ?_))
        refine L_op rfl (op_pr (pr_move rfl rfl) rfl rfl ?_)
        refine L_op rfl (op_pr (pr_move rfl rfl) rfl rfl ?_)
        refine L_op rfl (op_call0 (vs := [(.slice A n c), (.slice A1 ((catp Q).length) c1)]) (cap := []) (fun w hw => rtag_f xs A n c (catp Q) A1 ((catp Q).length) c1 w (hok_cons ((src_rd 3 rfl) w hw) (hok_cons ((src_row 2 rfl) w hw) (hok_nil w))) (by first | assumption | omega | (simp; done) | (simp; omega)) (by first | omega | (simp; done) | (simp; omega) | (simp [*]; done) | (simp [*]; omega)) (by first | assumption | omega | (simp; done) | (simp; omega)) (by first | omega | (simp; done) | (simp; omega) | (simp [*]; done) | (simp [*]; omega))) (enters_of Try.func28 (by kernel_rfl) rfl) rfl rfl rfl rfl rfl (fun t23 q24 => ?_))
        refine L_op rfl (op_pr (pr_eqagg (bo := .eql) (c := ((mactag xs (catp Q)) == (mactag xs (catp Q)))) (r := ((mactag xs (catp Q)) == (mactag xs (catp Q)))) (eqb8 (xs := (mactag xs (catp Q))) (ys := (mactag xs (catp Q))) Try.underlying26 Try.underlying5 (by kernel_rfl) (by first | omega | (simp; done) | (simp; omega) | (simp [*]; done) | (simp [*]; omega)) (by first | omega | (simp; done) | (simp; omega) | (simp [*]; done) | (simp [*]; omega))) (by kernel_rfl) rfl rfl rfl rfl rfl) rfl rfl ?_)
        refine L_op rfl (op_pr (pr_pick_t rfl rfl rfl) rfl rfl ?_)
        refine L_op rfl (op_pr (pr_move rfl rfl) rfl rfl ?_)
        refine T_slot 48 (.bool ((mactag xs (catp Q)) == (mactag xs (catp Q)))) (.bool true) rfl (congrArg _ (by simp)) ?_
        refine L_op rfl (op_pr (pr_move rfl rfl) rfl rfl ?_)
        refine L_op rfl (op_pr (pr_move rfl rfl) rfl rfl ?_)
        refine L_op rfl (op_call0 (vs := [(.slice B17 n d18), (.slice A n c), (b8 (71#8))]) (cap := []) (fun w hw => kept_f xs (71#8) B17 n d18 A c w (hok_cons ((src_old 1 rfl) w hw) (hok_cons ((src_old 0 rfl) w hw) (hok_cons ((src_rd 3 rfl) w hw) (hok_nil w)))) (by first | omega | (simp; done) | (simp; omega) | (simp [*]; done) | (simp [*]; omega)) (by first | omega | (simp; done) | (simp; omega) | (simp [*]; done) | (simp [*]; omega)) (by first | omega | (simp; done) | (simp; omega) | (simp [*]; done) | (simp [*]; omega))) (enters_of Try.func19 (by kernel_rfl) rfl) rfl rfl rfl rfl rfl (fun t26 q27 => ?_))
        refine L_op rfl (op_pr (pr_pick_t rfl rfl rfl) rfl rfl ?_)
        refine L_op rfl (op_pr (pr_assign rfl rfl) rfl rfl ?_)
        refine L_nil ?_
        refine T_re [(4, (.bool true))] (sc rfl sn) ?_
        refine T_he [0, 1, 2, 3, 4, 5] [.old B17 1 (n + 3) d18 ((xs ++ [(71#8), (71#8), (71#8)]).map b8), .old B17 1 n d18 (xs.map b8), .row (.slice A1 ((catp Q).length) c1) 5 1 ((catp Q).length) ((catp Q).map b8), .rd A 1 n c (xs.map b8), .rd B 1 nq d (Q.map Pt.sl), .all Q] ⟨by decide, rfl⟩ ?_
        refine T_ret ?_
        exact T_fin () (by first | trivial | omega | (simp; done)) (res1 rfl rfl) [] ⟨by decide, rfl⟩ rfl
set_option maxHeartbeats 4000000 in
theorem macLong_f (xs : List (BitVec 8)) (A : Option Addr) (n : Nat) (c : Nat) (ts : List (BitVec 8)) (B : Option Addr) (nt : Nat) (d : Nat) (z : Int) (w : World) (hO : HOK [.rd A 1 n c (xs.map b8), .rd B 1 nt d (ts.map b8)] w) (hx : xs.length = n) (ht : ts.length = nt) : Calls Try.prog 9 [(.slice A n c), (.slice B nt d), (.int .i64 z)].toArray w (Ret (T := Unit) [] w (fun _ => True) (fun _ => (.bool true)) (fun _ => [])) := by
  have hml := mactag_len xs ts
  have hsl := shasum_len xs
  obtain ⟨zz, hzz⟩ : ∃ x : Nat, (BitVec.ofInt 64 z).toNat % (65 - n) = x := ⟨_, rfl⟩
  have hzl : n ≤ 64 → zz + n ≤ 64 := fun h => by have := Nat.mod_lt ((BitVec.ofInt 64 z).toNat) (show 0 < 65 - n by omega); omega
  have hF : Wid Fence.wide := wid_wide
  refine enter (c := _) Try.func9 rfl [] [(.slice A n c), (.slice B nt d), (.int .i64 z)] [.rd A 1 n c (xs.map b8), .rd B 1 nt d (ts.map b8)] (by rw [Try.ntmps9]; rfl) (own_rds hO rfl) ?_
  rw [Try.ntmps9]
  refine T_re [(0, (.slice A n c)), (1, (.slice B nt d)), (2, (.int .i64 z))] (sc rfl (sc rfl (sc rfl sn))) ?_
  refine T_he [0, 1] [.rd A 1 n c (xs.map b8), .rd B 1 nt d (ts.map b8)] ⟨by decide, rfl⟩ ?_
  refine T_seq ?_
  refine T_reg hF rfl ?_
  refine L_op rfl (op_pr (pr_assign rfl rfl) rfl rfl ?_)
  refine L_nil ?_
  refine T_re [(0, (.slice A n c)), (1, (.slice B nt d)), (2, (.int .i64 z))] (sc rfl (sc rfl (sc rfl sn))) ?_
  refine T_he [0, 1] [.rd A 1 n c (xs.map b8), .rd B 1 nt d (ts.map b8)] ⟨by decide, rfl⟩ ?_
  refine T_seq ?_
  refine T_seq ?_
  refine T_reg hF rfl ?_
  refine L_op rfl (op_pr (pr_move rfl rfl) rfl rfl ?_)
  refine L_op rfl (op_pr (pr_len_sl Try.underlying24 rfl rfl) rfl rfl ?_)
  refine L_op rfl (op_pr (pr_cmp (bo := .gtr) (nc_lt (a := 1000) (b := n)) rfl rfl rfl rfl) rfl rfl ?_)
  refine L_op rfl (op_pr (pr_move rfl rfl) rfl rfl ?_)
  rcases Bool.eq_false_or_eq_true (decide (1000 < n)) with hc_1 | hc_1
  · skip
    refine T_slot 12 (.bool (decide (1000 < n))) (.bool true) rfl (congrArg _ hc_1) ?_
    refine T_slot 11 (.bool (decide (1000 < n))) (.bool true) rfl (congrArg _ hc_1) ?_
    have hc_1 := of_decide_eq_true hc_1
    refine L_skip rfl rfl rfl ?_
    refine L_skip rfl rfl rfl ?_
    refine L_skip rfl rfl rfl ?_
    refine L_op rfl (op_pr (pr_pick_t rfl rfl rfl) rfl rfl ?_)
    refine L_nil ?_
    refine T_re [(0, (.slice A n c)), (1, (.slice B nt d)), (2, (.int .i64 z)), (16, (.bool true))] (sc rfl (sc rfl (sc rfl (sc rfl sn)))) ?_
    refine T_he [0, 1] [.rd A 1 n c (xs.map b8), .rd B 1 nt d (ts.map b8)] ⟨by decide, rfl⟩ ?_
    refine T_cond_t rfl ?_
    refine T_seq ?_
    refine T_reg hF rfl ?_
    refine L_op rfl (op_call0 (vs := []) (cap := []) (fun w hw => awake3_f  w (hok_nil w) ) (enters_of Try.func26 (by kernel_rfl) rfl) rfl rfl rfl rfl rfl (fun t2 q3 => ?_))
    refine L_op rfl (op_pr (pr_assign rfl rfl) rfl rfl ?_)
    refine L_nil ?_
    refine T_re [(6, (.bool true))] (sc rfl sn) ?_
    refine T_he [0, 1] [.rd A 1 n c (xs.map b8), .rd B 1 nt d (ts.map b8)] ⟨by decide, rfl⟩ ?_
    refine T_ret ?_
    exact T_fin () (by first | trivial | omega | (simp; done)) (res1 rfl rfl) [] ⟨by decide, rfl⟩ rfl
  · skip
    refine T_slot 12 (.bool (decide (1000 < n))) (.bool false) rfl (congrArg _ hc_1) ?_
    refine T_slot 11 (.bool (decide (1000 < n))) (.bool false) rfl (congrArg _ hc_1) ?_
    have hc_1 := of_decide_eq_false hc_1
    refine L_op rfl (op_pr (pr_move rfl rfl) rfl rfl ?_)
    refine L_op rfl (op_pr (pr_len_sl Try.underlying24 rfl rfl) rfl rfl ?_)
    refine L_op rfl (op_pr (pr_cmp (bo := .gtr) (nc_lt (a := 1000) (b := nt)) rfl rfl rfl rfl) rfl rfl ?_)
    refine L_op rfl (op_pr (pr_pick_f rfl rfl rfl) rfl rfl ?_)
    refine L_nil ?_
    refine T_re [(0, (.slice A n c)), (1, (.slice B nt d)), (2, (.int .i64 z)), (16, (.bool (decide (1000 < nt))))] (sc rfl (sc rfl (sc rfl (sc rfl sn)))) ?_
    refine T_he [0, 1] [.rd A 1 n c (xs.map b8), .rd B 1 nt d (ts.map b8)] ⟨by decide, rfl⟩ ?_
    refine T_cond (decide (1000 < nt)) rfl (fun hc_4 => ?_) (fun hc_4 => ?_)
    · skip
      have hc_4 := of_decide_eq_true hc_4
      refine T_seq ?_
      refine T_reg hF rfl ?_
      refine L_op rfl (op_call0 (vs := []) (cap := []) (fun w hw => awake3_f  w (hok_nil w) ) (enters_of Try.func26 (by kernel_rfl) rfl) rfl rfl rfl rfl rfl (fun t5 q6 => ?_))
      refine L_op rfl (op_pr (pr_assign rfl rfl) rfl rfl ?_)
      refine L_nil ?_
      refine T_re [(6, (.bool true))] (sc rfl sn) ?_
      refine T_he [0, 1] [.rd A 1 n c (xs.map b8), .rd B 1 nt d (ts.map b8)] ⟨by decide, rfl⟩ ?_
      refine T_ret ?_
      exact T_fin () (by first | trivial | omega | (simp; done)) (res1 rfl rfl) [] ⟨by decide, rfl⟩ rfl
    · skip
      have hc_4 := of_decide_eq_false hc_4
      refine T_skip ?_
      refine T_seq ?_
      refine T_seq ?_
      refine T_reg hF rfl ?_
      refine L_op rfl (op_pr (pr_move rfl rfl) rfl rfl ?_)
      refine L_op rfl (op_pr (pr_len_sl Try.underlying24 rfl rfl) rfl rfl ?_)
      refine L_op rfl (op_pr (pr_cmp (bo := .gtr) (nc_lt (a := 64) (b := n)) rfl rfl rfl rfl) rfl rfl ?_)
      refine L_nil ?_
      refine T_re [(0, (.slice A n c)), (1, (.slice B nt d)), (2, (.int .i64 z)), (20, (.bool (decide (64 < n))))] (sc rfl (sc rfl (sc rfl (sc rfl sn)))) ?_
      refine T_he [0, 1] [.rd A 1 n c (xs.map b8), .rd B 1 nt d (ts.map b8)] ⟨by decide, rfl⟩ ?_
      refine T_cond (decide (64 < n)) rfl (fun hc_7 => ?_) (fun hc_7 => ?_)
      · skip
        have hc_7 := of_decide_eq_true hc_7
        refine T_seq ?_
        refine T_reg hF rfl ?_
        refine L_op rfl (op_pr (pr_move rfl rfl) rfl rfl ?_)
        refine L_op rfl (op_call0 (vs := [(.slice A n c)]) (cap := []) (fun w hw => rsum_f xs A n c w (hok_cons ((src_rd 0 rfl) w hw) (hok_nil w)) (by first | assumption | omega | (simp; done) | (simp; omega)) (by first | omega | (simp; done) | (simp; omega) | (simp [*]; done) | (simp [*]; omega))) (enters_of Try.func18 (by kernel_rfl) rfl) rfl rfl rfl rfl rfl (fun t8 q9 => ?_))
        refine L_op rfl (op_alloc (z := .agg ((List.replicate 32 0#8).map b8).toArray) (zs := ((List.replicate 32 0#8).map b8)) (by kernel_rfl) rfl rfl rfl rfl (fun g10 => ?_))
        refine L_op rfl (op_store (vs := ((shasum xs).map b8)) (cs' := ((shasum xs).map b8)) 0 rfl rfl (by rw [show (((shasum xs).map b8)).length = 32 from (by first | omega | (simp; done) | (simp; omega) | (simp [*]; done) | (simp [*]; omega))]; kernel_rfl) (all8_one _) (by have h1 : (((List.replicate 32 0#8).map b8)).length = 32 := (by kernel_rfl); have h2 : (((shasum xs).map b8)).length = 32 := (by first | omega | (simp; done) | (simp; omega) | (simp [*]; done) | (simp [*]; omega)); omega) (splice_all (Eq.trans (b := 32) (by kernel_rfl) (Eq.symm (by first | omega | (simp; done) | (simp; omega) | (simp [*]; done) | (simp [*]; omega))))) rfl rfl rfl rfl ?_)
        refine L_nil ?_
        refine T_re [(0, (.slice A n c)), (1, (.slice B nt d)), (7, (.pointer (some ⟨g10, 0, none⟩)))] (sc rfl (sc rfl (sc rfl sn))) ?_
        refine T_he [0, 1, 2] [.blk g10 26 ((shasum xs).map b8), .rd A 1 n c (xs.map b8), .rd B 1 nt d (ts.map b8)] ⟨by decide, rfl⟩ ?_
        refine T_seq ?_
        refine T_regD [.blk g10 26 ((shasum xs).map b8), .rd A 1 n c (xs.map b8), .rd B 1 nt d (ts.map b8)] 13 13 #[false, false, false, false, false, false, false, false, false, false, false, false, false] hF (by kernel_rfl) (by kernel_rfl) ?_
        refine D_one 0 _ rfl (by kernel_rfl) rfl (op_call0 (vs := []) (cap := []) (fun w hw => awake3_f  w (hok_nil w) ) (enters_of Try.func26 (by kernel_rfl) rfl) rfl rfl rfl rfl rfl (fun t11 q12 => ?_))
        refine D_on [0, 1, 2] rfl ?_
        refine D_pure (i := 1) [0, 1, 2] rfl (by kernel_rfl) rfl (pr_move rfl rfl) (.inr rfl) rfl rfl ?_
        refine D_pure (i := 2) [0, 1, 2] rfl (by kernel_rfl) rfl (pr_move rfl rfl) (.inr rfl) rfl rfl ?_
        refine D_pure (i := 3) [0, 1, 2] rfl (by kernel_rfl) rfl (pr_move rfl rfl) (.inr rfl) rfl rfl ?_
        refine D_pure (i := 6) [0, 1, 2] rfl (by kernel_rfl) rfl (pr_sla (l := 0) (u := 32) (m := 0) (by first | omega | (simp; done) | (simp; omega) | (simp [*]; done) | (simp [*]; omega)) (by first | omega | (simp; done) | (simp; omega) | (simp [*]; done) | (simp [*]; omega)) (by first | omega | (simp; done) | (simp; omega) | (simp [*]; done) | (simp [*]; omega)) rfl Try.underlying26 (z := 1) (by kernel_rfl) rfl rfl rfl rfl) (.inr rfl) rfl rfl ?_
        refine D_pure (i := 7) [0, 1, 2] rfl (by kernel_rfl) rfl (pr_move rfl rfl) (.inr rfl) rfl rfl ?_
        refine D_join (T := Unit) (fun _ => True) (fun _ => [(6, (.bool ((mactag xs ts) == (mactag xs ts))))]) (fun _ => [.blk g10 26 ((shasum xs).map b8), .rd A 1 n c (xs.map b8), .rd B 1 nt d (ts.map b8)]) ?_ ?_
        · skip
          refine D_all [4, 8] (by kernel_rfl) (by simp) ⟨⟨_, rfl, rfl, ?_⟩, ⟨_, rfl, rfl, ?_⟩, trivial⟩
          · skip
            refine id (op_bslice (e := 24) (zs := [(.slice B nt d)]) (qs := [(0, (.slice B nt d))]) (fun _ => by kernel_rfl) rfl rfl rfl rfl (fun g19 => ?_))
            refine D_on [1, 2, 3] rfl ?_
            refine D_all [5, 8] (by kernel_rfl) (by simp) ⟨⟨_, rfl, rfl, ?_⟩, ⟨_, rfl, rfl, ?_⟩, trivial⟩
            · skip
              refine id (op_call0 (vs := [(.slice A n c), (.slice (some ⟨g19, 0, none⟩) 1 1)]) (cap := []) (fun w hw => tag_f xs A n c [(Pt.mk B nt d ts)] (some ⟨g19, 0, none⟩) 1 1 w (hok_cons ((src_rd 2 rfl) w hw) (hok_cons ((src_full (z := 1) 0 rfl rfl (by first | omega | (simp; done) | (simp; omega) | (simp [*]; done) | (simp [*]; omega)) (by first | omega | (simp; done) | (simp; omega) | (simp [*]; done) | (simp [*]; omega))) w hw) (hok_cons (all_cons ((src_rd 3 rfl) w hw) (all_nil w)) (hok_nil w)))) (by first | assumption | omega | (simp; done) | (simp; omega)) (by first | omega | (simp; done) | (simp; omega) | (simp [*]; done) | (simp [*]; omega)) (by first | omega | (simp; done) | (simp; omega) | (simp [*]; done) | (simp [*]; omega)) (by first | omega | (simp; done) | (simp; omega) | (simp [*]; done) | (simp [*]; omega)) (by first | assumption | omega | (simp only [catp_cons, catp_nil, List.append_nil, List.length_append]; omega) | (simp [catp_cons, catp_nil]; done) | (simp [catp_cons, catp_nil]; omega))) (enters_of Try.func27 (by kernel_rfl) rfl) rfl rfl rfl rfl rfl (fun t20 q21 => ?_))
              refine T_slot 28 (.agg ((mactag xs (catp [(Pt.mk B nt d ts)])).map b8).toArray) (.agg ((mactag xs ts).map b8).toArray) rfl (by rw [catp_one]) ?_
              refine D_on [1, 2, 3] rfl ?_
              refine D_one 8 _ rfl (by kernel_rfl) rfl (op_bslice (e := 24) (zs := [(.slice B nt d)]) (qs := [(0, (.slice B nt d))]) (fun _ => by kernel_rfl) rfl rfl rfl rfl (fun g22 => ?_))
              refine D_on [2, 3, 4] rfl ?_
              refine D_one 9 _ rfl (by kernel_rfl) rfl (op_call0 (vs := [(.slice (some ⟨g10, 0, none⟩) 32 32), (.slice (some ⟨g22, 0, none⟩) 1 1)]) (cap := []) (fun w hw => tag_f (shasum xs) (some ⟨g10, 0, none⟩) 32 32 [(Pt.mk B nt d ts)] (some ⟨g22, 0, none⟩) 1 1 w (hok_cons ((src_full (z := 1) 2 rfl (by first | omega | (simp; done) | (simp; omega) | (simp [*]; done) | (simp [*]; omega)) (by first | omega | (simp; done) | (simp; omega) | (simp [*]; done) | (simp [*]; omega)) (by first | omega | (simp; done) | (simp; omega) | (simp [*]; done) | (simp [*]; omega))) w hw) (hok_cons ((src_full (z := 1) 0 rfl rfl (by first | omega | (simp; done) | (simp; omega) | (simp [*]; done) | (simp [*]; omega)) (by first | omega | (simp; done) | (simp; omega) | (simp [*]; done) | (simp [*]; omega))) w hw) (hok_cons (all_cons ((src_rd 4 rfl) w hw) (all_nil w)) (hok_nil w)))) (by first | assumption | omega | (simp; done) | (simp; omega)) (by first | omega | (simp; done) | (simp; omega) | (simp [*]; done) | (simp [*]; omega)) (by first | omega | (simp; done) | (simp; omega) | (simp [*]; done) | (simp [*]; omega)) (by first | omega | (simp; done) | (simp; omega) | (simp [*]; done) | (simp [*]; omega)) (by first | assumption | omega | (simp only [catp_cons, catp_nil, List.append_nil, List.length_append]; omega) | (simp [catp_cons, catp_nil]; done) | (simp [catp_cons, catp_nil]; omega))) (enters_of Try.func27 (by kernel_rfl) rfl) rfl rfl rfl rfl rfl (fun t23 q24 => ?_))
              refine T_slot 32 (.agg ((mactag (shasum xs) (catp [(Pt.mk B nt d ts)])).map b8).toArray) (.agg ((mactag xs ts).map b8).toArray) rfl (by rw [catp_one, mactag_sum xs ts (by omega)]) ?_
              refine D_on [2, 3, 4] rfl ?_
              refine D_pure (i := 10) [2, 3, 4] rfl (by kernel_rfl) rfl (pr_eqagg (bo := .eql) (c := ((mactag xs ts) == (mactag xs ts))) (r := ((mactag xs ts) == (mactag xs ts))) (eqb8 (xs := (mactag xs ts)) (ys := (mactag xs ts)) Try.underlying26 Try.underlying5 (by kernel_rfl) (by first | omega | (simp; done) | (simp; omega) | (simp [*]; done) | (simp [*]; omega)) (by first | omega | (simp; done) | (simp; omega) | (simp [*]; done) | (simp [*]; omega))) (by kernel_rfl) rfl rfl rfl rfl rfl) (.inr rfl) rfl rfl ?_
              refine D_pure (i := 11) [2, 3, 4] rfl (by kernel_rfl) rfl (pr_pick_t rfl rfl rfl) (.inr rfl) rfl rfl ?_
              refine D_pure (i := 12) [2, 3, 4] rfl (by kernel_rfl) rfl (pr_assign rfl rfl) (.inr rfl) rfl rfl ?_
              refine D_done (by kernel_rfl) ?_
              exact T_meet () trivial (sc rfl sn) [2, 3, 4] ⟨by decide, rfl⟩
            · skip
              refine id (op_bslice (e := 24) (zs := [(.slice B nt d)]) (qs := [(0, (.slice B nt d))]) (fun _ => by kernel_rfl) rfl rfl rfl rfl (fun g25 => ?_))
              refine D_on [2, 3, 4] rfl ?_
              refine D_one 5 _ rfl (by kernel_rfl) rfl (op_call0 (vs := [(.slice A n c), (.slice (some ⟨g19, 0, none⟩) 1 1)]) (cap := []) (fun w hw => tag_f xs A n c [(Pt.mk B nt d ts)] (some ⟨g19, 0, none⟩) 1 1 w (hok_cons ((src_rd 3 rfl) w hw) (hok_cons ((src_full (z := 1) 1 rfl rfl (by first | omega | (simp; done) | (simp; omega) | (simp [*]; done) | (simp [*]; omega)) (by first | omega | (simp; done) | (simp; omega) | (simp [*]; done) | (simp [*]; omega))) w hw) (hok_cons (all_cons ((src_rd 4 rfl) w hw) (all_nil w)) (hok_nil w)))) (by first | assumption | omega | (simp; done) | (simp; omega)) (by first | omega | (simp; done) | (simp; omega) | (simp [*]; done) | (simp [*]; omega)) (by first | omega | (simp; done) | (simp; omega) | (simp [*]; done) | (simp [*]; omega)) (by first | omega | (simp; done) | (simp; omega) | (simp [*]; done) | (simp [*]; omega)) (by first | assumption | omega | (simp only [catp_cons, catp_nil, List.append_nil, List.length_append]; omega) | (simp [catp_cons, catp_nil]; done) | (simp [catp_cons, catp_nil]; omega))) (enters_of Try.func27 (by kernel_rfl) rfl) rfl rfl rfl rfl rfl (fun t26 q27 => ?_))
              refine T_slot 28 (.agg ((mactag xs (catp [(Pt.mk B nt d ts)])).map b8).toArray) (.agg ((mactag xs ts).map b8).toArray) rfl (by rw [catp_one]) ?_
              refine D_on [2, 3, 4] rfl ?_
              refine D_one 9 _ rfl (by kernel_rfl) rfl (op_call0 (vs := [(.slice (some ⟨g10, 0, none⟩) 32 32), (.slice (some ⟨g25, 0, none⟩) 1 1)]) (cap := []) (fun w hw => tag_f (shasum xs) (some ⟨g10, 0, none⟩) 32 32 [(Pt.mk B nt d ts)] (some ⟨g25, 0, none⟩) 1 1 w (hok_cons ((src_full (z := 1) 2 rfl (by first | omega | (simp; done) | (simp; omega) | (simp [*]; done) | (simp [*]; omega)) (by first | omega | (simp; done) | (simp; omega) | (simp [*]; done) | (simp [*]; omega)) (by first | omega | (simp; done) | (simp; omega) | (simp [*]; done) | (simp [*]; omega))) w hw) (hok_cons ((src_full (z := 1) 0 rfl rfl (by first | omega | (simp; done) | (simp; omega) | (simp [*]; done) | (simp [*]; omega)) (by first | omega | (simp; done) | (simp; omega) | (simp [*]; done) | (simp [*]; omega))) w hw) (hok_cons (all_cons ((src_rd 4 rfl) w hw) (all_nil w)) (hok_nil w)))) (by first | assumption | omega | (simp; done) | (simp; omega)) (by first | omega | (simp; done) | (simp; omega) | (simp [*]; done) | (simp [*]; omega)) (by first | omega | (simp; done) | (simp; omega) | (simp [*]; done) | (simp [*]; omega)) (by first | omega | (simp; done) | (simp; omega) | (simp [*]; done) | (simp [*]; omega)) (by first | assumption | omega | (simp only [catp_cons, catp_nil, List.append_nil, List.length_append]; omega) | (simp [catp_cons, catp_nil]; done) | (simp [catp_cons, catp_nil]; omega))) (enters_of Try.func27 (by kernel_rfl) rfl) rfl rfl rfl rfl rfl (fun t28 q29 => ?_))
              refine T_slot 32 (.agg ((mactag (shasum xs) (catp [(Pt.mk B nt d ts)])).map b8).toArray) (.agg ((mactag xs ts).map b8).toArray) rfl (by rw [catp_one, mactag_sum xs ts (by omega)]) ?_
              refine D_on [2, 3, 4] rfl ?_
              refine D_pure (i := 10) [2, 3, 4] rfl (by kernel_rfl) rfl (pr_eqagg (bo := .eql) (c := ((mactag xs ts) == (mactag xs ts))) (r := ((mactag xs ts) == (mactag xs ts))) (eqb8 (xs := (mactag xs ts)) (ys := (mactag xs ts)) Try.underlying26 Try.underlying5 (by kernel_rfl) (by first | omega | (simp; done) | (simp; omega) | (simp [*]; done) | (simp [*]; omega)) (by first | omega | (simp; done) | (simp; omega) | (simp [*]; done) | (simp [*]; omega))) (by kernel_rfl) rfl rfl rfl rfl rfl) (.inr rfl) rfl rfl ?_
              refine D_pure (i := 11) [2, 3, 4] rfl (by kernel_rfl) rfl (pr_pick_t rfl rfl rfl) (.inr rfl) rfl rfl ?_
              refine D_pure (i := 12) [2, 3, 4] rfl (by kernel_rfl) rfl (pr_assign rfl rfl) (.inr rfl) rfl rfl ?_
              refine D_done (by kernel_rfl) ?_
              exact T_meet () trivial (sc rfl sn) [2, 3, 4] ⟨by decide, rfl⟩
          · skip
            refine id (op_bslice (e := 24) (zs := [(.slice B nt d)]) (qs := [(0, (.slice B nt d))]) (fun _ => by kernel_rfl) rfl rfl rfl rfl (fun g30 => ?_))
            refine D_on [1, 2, 3] rfl ?_
            refine D_one 4 _ rfl (by kernel_rfl) rfl (op_bslice (e := 24) (zs := [(.slice B nt d)]) (qs := [(0, (.slice B nt d))]) (fun _ => by kernel_rfl) rfl rfl rfl rfl (fun g31 => ?_))
            refine D_on [2, 3, 4] rfl ?_
            refine D_one 5 _ rfl (by kernel_rfl) rfl (op_call0 (vs := [(.slice A n c), (.slice (some ⟨g31, 0, none⟩) 1 1)]) (cap := []) (fun w hw => tag_f xs A n c [(Pt.mk B nt d ts)] (some ⟨g31, 0, none⟩) 1 1 w (hok_cons ((src_rd 3 rfl) w hw) (hok_cons ((src_full (z := 1) 0 rfl rfl (by first | omega | (simp; done) | (simp; omega) | (simp [*]; done) | (simp [*]; omega)) (by first | omega | (simp; done) | (simp; omega) | (simp [*]; done) | (simp [*]; omega))) w hw) (hok_cons (all_cons ((src_rd 4 rfl) w hw) (all_nil w)) (hok_nil w)))) (by first | assumption | omega | (simp; done) | (simp; omega)) (by first | omega | (simp; done) | (simp; omega) | (simp [*]; done) | (simp [*]; omega)) (by first | omega | (simp; done) | (simp; omega) | (simp [*]; done) | (simp [*]; omega)) (by first | omega | (simp; done) | (simp; omega) | (simp [*]; done) | (simp [*]; omega)) (by first | assumption | omega | (simp only [catp_cons, catp_nil, List.append_nil, List.length_append]; omega) | (simp [catp_cons, catp_nil]; done) | (simp [catp_cons, catp_nil]; omega))) (enters_of Try.func27 (by kernel_rfl) rfl) rfl rfl rfl rfl rfl (fun t32 q33 => ?_))
            refine T_slot 28 (.agg ((mactag xs (catp [(Pt.mk B nt d ts)])).map b8).toArray) (.agg ((mactag xs ts).map b8).toArray) rfl (by rw [catp_one]) ?_
            refine D_on [2, 3, 4] rfl ?_
            refine D_one 9 _ rfl (by kernel_rfl) rfl (op_call0 (vs := [(.slice (some ⟨g10, 0, none⟩) 32 32), (.slice (some ⟨g30, 0, none⟩) 1 1)]) (cap := []) (fun w hw => tag_f (shasum xs) (some ⟨g10, 0, none⟩) 32 32 [(Pt.mk B nt d ts)] (some ⟨g30, 0, none⟩) 1 1 w (hok_cons ((src_full (z := 1) 2 rfl (by first | omega | (simp; done) | (simp; omega) | (simp [*]; done) | (simp [*]; omega)) (by first | omega | (simp; done) | (simp; omega) | (simp [*]; done) | (simp [*]; omega)) (by first | omega | (simp; done) | (simp; omega) | (simp [*]; done) | (simp [*]; omega))) w hw) (hok_cons ((src_full (z := 1) 1 rfl rfl (by first | omega | (simp; done) | (simp; omega) | (simp [*]; done) | (simp [*]; omega)) (by first | omega | (simp; done) | (simp; omega) | (simp [*]; done) | (simp [*]; omega))) w hw) (hok_cons (all_cons ((src_rd 4 rfl) w hw) (all_nil w)) (hok_nil w)))) (by first | assumption | omega | (simp; done) | (simp; omega)) (by first | omega | (simp; done) | (simp; omega) | (simp [*]; done) | (simp [*]; omega)) (by first | omega | (simp; done) | (simp; omega) | (simp [*]; done) | (simp [*]; omega)) (by first | omega | (simp; done) | (simp; omega) | (simp [*]; done) | (simp [*]; omega)) (by first | assumption | omega | (simp only [catp_cons, catp_nil, List.append_nil, List.length_append]; omega) | (simp [catp_cons, catp_nil]; done) | (simp [catp_cons, catp_nil]; omega))) (enters_of Try.func27 (by kernel_rfl) rfl) rfl rfl rfl rfl rfl (fun t34 q35 => ?_))
            refine T_slot 32 (.agg ((mactag (shasum xs) (catp [(Pt.mk B nt d ts)])).map b8).toArray) (.agg ((mactag xs ts).map b8).toArray) rfl (by rw [catp_one, mactag_sum xs ts (by omega)]) ?_
            refine D_on [2, 3, 4] rfl ?_
            refine D_pure (i := 10) [2, 3, 4] rfl (by kernel_rfl) rfl (pr_eqagg (bo := .eql) (c := ((mactag xs ts) == (mactag xs ts))) (r := ((mactag xs ts) == (mactag xs ts))) (eqb8 (xs := (mactag xs ts)) (ys := (mactag xs ts)) Try.underlying26 Try.underlying5 (by kernel_rfl) (by first | omega | (simp; done) | (simp; omega) | (simp [*]; done) | (simp [*]; omega)) (by first | omega | (simp; done) | (simp; omega) | (simp [*]; done) | (simp [*]; omega))) (by kernel_rfl) rfl rfl rfl rfl rfl) (.inr rfl) rfl rfl ?_
            refine D_pure (i := 11) [2, 3, 4] rfl (by kernel_rfl) rfl (pr_pick_t rfl rfl rfl) (.inr rfl) rfl rfl ?_
            refine D_pure (i := 12) [2, 3, 4] rfl (by kernel_rfl) rfl (pr_assign rfl rfl) (.inr rfl) rfl rfl ?_
            refine D_done (by kernel_rfl) ?_
            exact T_meet () trivial (sc rfl sn) [2, 3, 4] ⟨by decide, rfl⟩
        · rintro ⟨⟩ -
          refine T_re [(6, (.bool ((mactag xs ts) == (mactag xs ts))))] (sc rfl sn) ?_
          refine T_he [0, 1, 2] [.blk g10 26 ((shasum xs).map b8), .rd A 1 n c (xs.map b8), .rd B 1 nt d (ts.map b8)] ⟨by decide, rfl⟩ ?_
          refine T_ret ?_
          refine T_slot 6 (.bool ((mactag xs ts) == (mactag xs ts))) (.bool true) rfl (by simp) ?_
          exact T_fin () (by first | trivial | omega | (simp; done)) (res1 rfl rfl) [] ⟨by decide, rfl⟩ rfl
      · skip
        have hc_7 := of_decide_eq_false hc_7
        refine T_skip ?_
        refine T_seq ?_
        refine T_regD [.rd A 1 n c (xs.map b8), .rd B 1 nt d (ts.map b8)] 10 12 #[false, false, false, false, false, false, false, false, false, false, false, false] hF (by kernel_rfl) (by kernel_rfl) ?_
        refine D_pure (i := 0) [0, 1] rfl (by kernel_rfl) rfl (pr_move rfl rfl) (.inr rfl) rfl rfl ?_
        refine D_pure (i := 2) [0, 1] rfl (by kernel_rfl) rfl (pr_move rfl rfl) (.inr rfl) rfl rfl ?_
        refine D_pure (i := 3) [0, 1] rfl (by kernel_rfl) rfl (pr_cv (zc_u64 z) Try.underlying3 Try.underlying37 rfl rfl) (.inr rfl) rfl rfl ?_
        refine D_pure (i := 4) [0, 1] rfl (by kernel_rfl) rfl (pr_move rfl rfl) (.inr rfl) rfl rfl ?_
        refine D_pure (i := 5) [0, 1] rfl (by kernel_rfl) rfl (pr_len_sl Try.underlying24 rfl rfl) (.inr rfl) rfl rfl ?_
        refine D_pure (i := 6) [0, 1] rfl (by kernel_rfl) rfl (pr_sub (ns_i64 (a := 65) (b := n) (by first | omega | (simp; done) | (simp; omega) | (simp [*]; done) | (simp [*]; omega)) (by first | omega | (simp; done) | (simp; omega) | (simp [*]; done) | (simp [*]; omega))) rfl rfl rfl) (.inr rfl) rfl rfl ?_
        refine D_pure (i := 7) [0, 1] rfl (by kernel_rfl) rfl (pr_cv (ni_u64 (a := 65 - n) (by first | omega | (simp; done) | (simp; omega) | (simp [*]; done) | (simp [*]; omega))) Try.underlying3 Try.underlying37 rfl rfl) (.inr rfl) rfl rfl ?_
        refine D_pure (i := 8) [0, 1] rfl (by kernel_rfl) rfl (pr_rem (a := (BitVec.ofInt 64 z).toNat) (b := 65 - n) (by first | omega | (simp; done) | (simp; omega) | (simp [*]; done) | (simp [*]; omega)) rfl rfl rfl) (.inr rfl) rfl rfl ?_
        refine D_pure (i := 9) [0, 1] rfl (by kernel_rfl) rfl (pr_cv (ni_i64 (a := ((BitVec.ofInt 64 z).toNat) % (65 - n)) (by first | omega | (simp; done) | (simp; omega) | (simp [*]; done) | (simp [*]; omega))) Try.underlying37 Try.underlying3 rfl rfl) (.inr rfl) rfl rfl ?_
        refine T_slot 44 (.int .i64 ((((BitVec.ofInt 64 z).toNat) % (65 - n) : Nat) : Int)) (.int .i64 ((zz : Nat) : Int)) rfl (by rw [hzz]) ?_
        refine D_one 1 _ rfl (by kernel_rfl) rfl (op_call0 (vs := [(.slice A n c)]) (cap := []) (fun w hw => copyBytes_f xs A n c w (hok_cons ((src_rd 0 rfl) w hw) (hok_nil w)) (by first | omega | (simp; done) | (simp; omega) | (simp [*]; done) | (simp [*]; omega))) (enters_of Try.func25 (by kernel_rfl) rfl) rfl rfl rfl rfl rfl (fun t36 q37 => ?_))
        obtain ⟨B38, d39⟩ := t36
        refine D_on [1, 2] rfl ?_
        refine D_one 10 _ rfl (by kernel_rfl) rfl (op_append0 (z := (b8 (0#8))) (bytes := 1) (m := zz) 0 rfl Try.underlying24 Try.underlying3 (by kernel_rfl) rfl rfl (by first | omega | (simp; done) | (simp; omega) | (simp [*]; done) | (simp [*]; omega)) (by first | omega | (simp; done) | (simp; omega) | (simp [*]; done) | (simp [*]; omega)) rfl rfl rfl rfl rfl (fun A40 C41 => ?_))
        refine T_as 0 (.row (.slice A40 (n + zz) C41) 5 1 (n + zz) ((xs.map b8) ++ List.replicate zz (b8 (0#8)))) (.row (.slice A40 (n + zz) C41) 5 1 (n + zz) ((xs ++ (List.replicate zz 0#8)).map b8)) rfl (by first | rfl | (congr 1; simp)) ?_
        refine D_past (by kernel_rfl) ?_
        refine D_pure (i := 11) [] rfl (by kernel_rfl) rfl (pr_assign rfl rfl) (.inl (by kernel_rfl)) rfl rfl ?_
        refine D_done (by kernel_rfl) ?_
        refine T_re [(0, (.slice A n c)), (1, (.slice B nt d)), (8, (.slice A40 (n + zz) C41))] (sc rfl (sc rfl (sc rfl sn))) ?_
        refine T_he [0, 1, 2] [.row (.slice A40 (n + zz) C41) 5 1 (n + zz) ((xs ++ (List.replicate zz 0#8)).map b8), .rd A 1 n c (xs.map b8), .rd B 1 nt d (ts.map b8)] ⟨by decide, rfl⟩ ?_
        refine T_seq ?_
        refine T_reg hF rfl ?_
        refine L_op rfl (op_call0 (vs := []) (cap := []) (fun w hw => awake3_f  w (hok_nil w) ) (enters_of Try.func26 (by kernel_rfl) rfl) rfl rfl rfl rfl rfl (fun t42 q43 => ?_))
        refine L_op rfl (op_pr (pr_move rfl rfl) rfl rfl ?_)
        refine L_op rfl (op_pr (pr_move rfl rfl) rfl rfl ?_)
        refine L_op rfl (op_pr (pr_move rfl rfl) rfl rfl ?_)
        refine L_op rfl (op_bslice (e := 24) (zs := [(.slice B nt d)]) (qs := [(0, (.slice B nt d))]) (fun _ => by kernel_rfl) rfl rfl rfl rfl (fun g44 => ?_))
        refine L_op rfl (op_call0 (vs := [(.slice A n c), (.slice (some ⟨g44, 0, none⟩) 1 1)]) (cap := []) (fun w hw => tag_f xs A n c [(Pt.mk B nt d ts)] (some ⟨g44, 0, none⟩) 1 1 w (hok_cons ((src_rd 2 rfl) w hw) (hok_cons ((src_full (z := 1) 0 rfl rfl (by first | omega | (simp; done) | (simp; omega) | (simp [*]; done) | (simp [*]; omega)) (by first | omega | (simp; done) | (simp; omega) | (simp [*]; done) | (simp [*]; omega))) w hw) (hok_cons (all_cons ((src_rd 3 rfl) w hw) (all_nil w)) (hok_nil w)))) (by first | assumption | omega | (simp; done) | (simp; omega)) (by first | omega | (simp; done) | (simp; omega) | (simp [*]; done) | (simp [*]; omega)) (by first | omega | (simp; done) | (simp; omega) | (simp [*]; done) | (simp [*]; omega)) (by first | omega | (simp; done) | (simp; omega) | (simp [*]; done) | (simp [*]; omega)) (by first | assumption | omega | (simp only [catp_cons, catp_nil, List.append_nil, List.length_append]; omega) | (simp [catp_cons, catp_nil]; done) | (simp [catp_cons, catp_nil]; omega))) (enters_of Try.func27 (by kernel_rfl) rfl) rfl rfl rfl rfl rfl (fun t45 q46 => ?_))
        refine T_slot 51 (.agg ((mactag xs (catp [(Pt.mk B nt d ts)])).map b8).toArray) (.agg ((mactag xs ts).map b8).toArray) rfl (by rw [catp_one]) ?_
        refine L_op rfl (op_pr (pr_move rfl rfl) rfl rfl ?_)
        refine L_op rfl (op_pr (pr_move rfl rfl) rfl rfl ?_)
        refine L_op rfl (op_bslice (e := 24) (zs := [(.slice B nt d)]) (qs := [(0, (.slice B nt d))]) (fun _ => by kernel_rfl) rfl rfl rfl rfl (fun g47 => ?_))
        refine L_op rfl (op_call0 (vs := [(.slice A40 (n + zz) C41), (.slice (some ⟨g47, 0, none⟩) 1 1)]) (cap := []) (fun w hw => tag_f (xs ++ (List.replicate zz 0#8)) A40 (n + zz) C41 [(Pt.mk B nt d ts)] (some ⟨g47, 0, none⟩) 1 1 w (hok_cons ((src_row 2 rfl) w hw) (hok_cons ((src_full (z := 1) 0 rfl rfl (by first | omega | (simp; done) | (simp; omega) | (simp [*]; done) | (simp [*]; omega)) (by first | omega | (simp; done) | (simp; omega) | (simp [*]; done) | (simp [*]; omega))) w hw) (hok_cons (all_cons ((src_rd 4 rfl) w hw) (all_nil w)) (hok_nil w)))) (by first | assumption | omega | (simp; done) | (simp; omega)) (by first | omega | (simp; done) | (simp; omega) | (simp [*]; done) | (simp [*]; omega)) (by first | omega | (simp; done) | (simp; omega) | (simp [*]; done) | (simp [*]; omega)) (by first | omega | (simp; done) | (simp; omega) | (simp [*]; done) | (simp [*]; omega)) (by first | assumption | omega | (simp only [catp_cons, catp_nil, List.append_nil, List.length_append]; omega) | (simp [catp_cons, catp_nil]; done) | (simp [catp_cons, catp_nil]; omega))) (enters_of Try.func27 (by kernel_rfl) rfl) rfl rfl rfl rfl rfl (fun t48 q49 => ?_))
        refine T_slot 55 (.agg ((mactag (xs ++ (List.replicate zz 0#8)) (catp [(Pt.mk B nt d ts)])).map b8).toArray) (.agg ((mactag xs ts).map b8).toArray) rfl (by rw [catp_one, mactag_zeros xs ts zz (by omega)]) ?_
        refine L_op rfl (op_pr (pr_eqagg (bo := .eql) (c := ((mactag xs ts) == (mactag xs ts))) (r := ((mactag xs ts) == (mactag xs ts))) (eqb8 (xs := (mactag xs ts)) (ys := (mactag xs ts)) Try.underlying26 Try.underlying5 (by kernel_rfl) (by first | omega | (simp; done) | (simp; omega) | (simp [*]; done) | (simp [*]; omega)) (by first | omega | (simp; done) | (simp; omega) | (simp [*]; done) | (simp [*]; omega))) (by kernel_rfl) rfl rfl rfl rfl rfl) rfl rfl ?_)
        refine L_op rfl (op_pr (pr_pick_t rfl rfl rfl) rfl rfl ?_)
        refine L_op rfl (op_pr (pr_assign rfl rfl) rfl rfl ?_)
        refine L_nil ?_
        refine T_re [(6, (.bool ((mactag xs ts) == (mactag xs ts))))] (sc rfl sn) ?_
        refine T_he [0, 1, 2, 3, 4] [.blk g47 24 [(.slice B nt d)], .blk g44 24 [(.slice B nt d)], .row (.slice A40 (n + zz) C41) 5 1 (n + zz) ((xs ++ (List.replicate zz 0#8)).map b8), .rd A 1 n c (xs.map b8), .rd B 1 nt d (ts.map b8)] ⟨by decide, rfl⟩ ?_
        refine T_ret ?_
        refine T_slot 6 (.bool ((mactag xs ts) == (mactag xs ts))) (.bool true) rfl (by simp) ?_
        exact T_fin () (by first | trivial | omega | (simp; done)) (res1 rfl rfl) [] ⟨by decide, rfl⟩ rfl
set_option maxHeartbeats 4000000 in
theorem macParts_f (xs : List (BitVec 8)) (A : Option Addr) (n : Nat) (c : Nat) (bs : List (BitVec 8)) (B : Option Addr) (nb : Nat) (d : Nat) (z : Int) (w : World) (hO : HOK [.rd A 1 n c (xs.map b8), .rd B 1 nb d (bs.map b8)] w) (hx : xs.length = n) (ht : bs.length = nb) : Calls Try.prog 10 [(.slice A n c), (.slice B nb d), (.int .i64 z)].toArray w (Ret (T := Unit) [] w (fun _ => True) (fun _ => (.bool true)) (fun _ => [])) := by
  have hml := mactag_len xs bs
  have hml2 := mactag_len xs []
  have hml3 := mactag_len bs xs
  obtain ⟨kk, hkk⟩ : ∃ x : Nat, (BitVec.ofInt 64 z).toNat % (nb + 1) = x := ⟨_, rfl⟩
  have hkl : kk ≤ nb := by have := Nat.mod_lt ((BitVec.ofInt 64 z).toNat) (show 0 < nb + 1 by omega); omega
  have hF : Wid Fence.wide := wid_wide
  refine enter (c := _) Try.func10 rfl [] [(.slice A n c), (.slice B nb d), (.int .i64 z)] [.rd A 1 n c (xs.map b8), .rd B 1 nb d (bs.map b8)] (by rw [Try.ntmps10]; rfl) (own_rds hO rfl) ?_
  rw [Try.ntmps10]
  refine T_re [(0, (.slice A n c)), (1, (.slice B nb d)), (2, (.int .i64 z))] (sc rfl (sc rfl (sc rfl sn))) ?_
  refine T_he [0, 1] [.rd A 1 n c (xs.map b8), .rd B 1 nb d (bs.map b8)] ⟨by decide, rfl⟩ ?_
  refine T_seq ?_
  refine T_reg hF rfl ?_
  refine L_op rfl (op_pr (pr_assign rfl rfl) rfl rfl ?_)
  refine L_nil ?_
  refine T_re [(0, (.slice A n c)), (1, (.slice B nb d)), (2, (.int .i64 z))] (sc rfl (sc rfl (sc rfl sn))) ?_
  refine T_he [0, 1] [.rd A 1 n c (xs.map b8), .rd B 1 nb d (bs.map b8)] ⟨by decide, rfl⟩ ?_
  refine T_seq ?_
  refine T_seq ?_
  refine T_reg hF rfl ?_
  refine L_op rfl (op_pr (pr_move rfl rfl) rfl rfl ?_)
  refine L_op rfl (op_pr (pr_len_sl Try.underlying24 rfl rfl) rfl rfl ?_)
  refine L_op rfl (op_pr (pr_cmp (bo := .gtr) (nc_lt (a := 300) (b := n)) rfl rfl rfl rfl) rfl rfl ?_)
  refine L_op rfl (op_pr (pr_move rfl rfl) rfl rfl ?_)
  rcases Bool.eq_false_or_eq_true (decide (300 < n)) with hc_1 | hc_1
  · skip
    refine T_slot 11 (.bool (decide (300 < n))) (.bool true) rfl (congrArg _ hc_1) ?_
    refine T_slot 10 (.bool (decide (300 < n))) (.bool true) rfl (congrArg _ hc_1) ?_
    have hc_1 := of_decide_eq_true hc_1
    refine L_skip rfl rfl rfl ?_
    refine L_skip rfl rfl rfl ?_
    refine L_skip rfl rfl rfl ?_
    refine L_op rfl (op_pr (pr_pick_t rfl rfl rfl) rfl rfl ?_)
    refine L_nil ?_
    refine T_re [(0, (.slice A n c)), (1, (.slice B nb d)), (2, (.int .i64 z)), (15, (.bool true))] (sc rfl (sc rfl (sc rfl (sc rfl sn)))) ?_
    refine T_he [0, 1] [.rd A 1 n c (xs.map b8), .rd B 1 nb d (bs.map b8)] ⟨by decide, rfl⟩ ?_
    refine T_cond_t rfl ?_
    refine T_seq ?_
    refine T_reg hF rfl ?_
    refine L_op rfl (op_call0 (vs := []) (cap := []) (fun w hw => awake3_f  w (hok_nil w) ) (enters_of Try.func26 (by kernel_rfl) rfl) rfl rfl rfl rfl rfl (fun t2 q3 => ?_))
    refine L_op rfl (op_pr (pr_assign rfl rfl) rfl rfl ?_)
    refine L_nil ?_
    refine T_re [(6, (.bool true))] (sc rfl sn) ?_
    refine T_he [0, 1] [.rd A 1 n c (xs.map b8), .rd B 1 nb d (bs.map b8)] ⟨by decide, rfl⟩ ?_
    refine T_ret ?_
    exact T_fin () (by first | trivial | omega | (simp; done)) (res1 rfl rfl) [] ⟨by decide, rfl⟩ rfl
  · skip
    refine T_slot 11 (.bool (decide (300 < n))) (.bool false) rfl (congrArg _ hc_1) ?_
    refine T_slot 10 (.bool (decide (300 < n))) (.bool false) rfl (congrArg _ hc_1) ?_
    have hc_1 := of_decide_eq_false hc_1
    refine L_op rfl (op_pr (pr_move rfl rfl) rfl rfl ?_)
    refine L_op rfl (op_pr (pr_len_sl Try.underlying24 rfl rfl) rfl rfl ?_)
    refine L_op rfl (op_pr (pr_cmp (bo := .gtr) (nc_lt (a := 1000) (b := nb)) rfl rfl rfl rfl) rfl rfl ?_)
    refine L_op rfl (op_pr (pr_pick_f rfl rfl rfl) rfl rfl ?_)
    refine L_nil ?_
    refine T_re [(0, (.slice A n c)), (1, (.slice B nb d)), (2, (.int .i64 z)), (15, (.bool (decide (1000 < nb))))] (sc rfl (sc rfl (sc rfl (sc rfl sn)))) ?_
    refine T_he [0, 1] [.rd A 1 n c (xs.map b8), .rd B 1 nb d (bs.map b8)] ⟨by decide, rfl⟩ ?_
    refine T_cond (decide (1000 < nb)) rfl (fun hc_4 => ?_) (fun hc_4 => ?_)
    · skip
      have hc_4 := of_decide_eq_true hc_4
      refine T_seq ?_
      refine T_reg hF rfl ?_
      refine L_op rfl (op_call0 (vs := []) (cap := []) (fun w hw => awake3_f  w (hok_nil w) ) (enters_of Try.func26 (by kernel_rfl) rfl) rfl rfl rfl rfl rfl (fun t5 q6 => ?_))
      refine L_op rfl (op_pr (pr_assign rfl rfl) rfl rfl ?_)
      refine L_nil ?_
      refine T_re [(6, (.bool true))] (sc rfl sn) ?_
      refine T_he [0, 1] [.rd A 1 n c (xs.map b8), .rd B 1 nb d (bs.map b8)] ⟨by decide, rfl⟩ ?_
      refine T_ret ?_
      exact T_fin () (by first | trivial | omega | (simp; done)) (res1 rfl rfl) [] ⟨by decide, rfl⟩ rfl
    · skip
      have hc_4 := of_decide_eq_false hc_4
      refine T_skip ?_
      refine T_seq ?_
      refine T_reg hF rfl ?_
      refine L_op rfl (op_pr (pr_move rfl rfl) rfl rfl ?_)
      refine L_op rfl (op_pr (pr_cv (zc_u64 z) Try.underlying3 Try.underlying37 rfl rfl) rfl rfl ?_)
      refine L_op rfl (op_pr (pr_move rfl rfl) rfl rfl ?_)
      refine L_op rfl (op_pr (pr_len_sl Try.underlying24 rfl rfl) rfl rfl ?_)
      refine L_op rfl (op_pr (pr_add (na_i64 (a := nb) (b := 1) (by first | omega | (simp; done) | (simp; omega) | (simp [*]; done) | (simp [*]; omega))) rfl rfl rfl) rfl rfl ?_)
      refine L_op rfl (op_pr (pr_cv (ni_u64 (a := nb + 1) (by first | omega | (simp; done) | (simp; omega) | (simp [*]; done) | (simp [*]; omega))) Try.underlying3 Try.underlying37 rfl rfl) rfl rfl ?_)
      refine L_op rfl (op_pr (pr_rem (a := (BitVec.ofInt 64 z).toNat) (b := nb + 1) (by first | omega | (simp; done) | (simp; omega) | (simp [*]; done) | (simp [*]; omega)) rfl rfl rfl) rfl rfl ?_)
      refine L_op rfl (op_pr (pr_cv (ni_i64 (a := ((BitVec.ofInt 64 z).toNat) % (nb + 1)) (by first | omega | (simp; done) | (simp; omega) | (simp [*]; done) | (simp [*]; omega))) Try.underlying37 Try.underlying3 rfl rfl) rfl rfl ?_)
      refine T_slot 24 (.int .i64 ((((BitVec.ofInt 64 z).toNat) % (nb + 1) : Nat) : Int)) (.int .i64 ((kk : Nat) : Int)) rfl (by rw [hkk]) ?_
      refine L_op rfl (op_pr (pr_assign rfl rfl) rfl rfl ?_)
      refine L_nil ?_
      refine T_re [(0, (.slice A n c)), (1, (.slice B nb d)), (7, (.int .i64 ((kk : Nat) : Int)))] (sc rfl (sc rfl (sc rfl sn))) ?_
      refine T_he [0, 1] [.rd A 1 n c (xs.map b8), .rd B 1 nb d (bs.map b8)] ⟨by decide, rfl⟩ ?_
      refine T_seq ?_
      refine T_regD [.rd A 1 n c (xs.map b8), .rd B 1 nb d (bs.map b8)] 36 36 #[false, false, false, false, false, false, false, false, false, false, false, false, false, false, false, false, false, false, false, false, false, false, false, false, false, false, false, false, false, false, false, false, false, false, false, false] hF (by kernel_rfl) (by kernel_rfl) ?_
      refine D_one 0 _ rfl (by kernel_rfl) rfl (op_call0 (vs := []) (cap := []) (fun w hw => awake3_f  w (hok_nil w) ) (enters_of Try.func26 (by kernel_rfl) rfl) rfl rfl rfl rfl rfl (fun t7 q8 => ?_))
      refine D_on [0, 1] rfl ?_
      refine D_pure (i := 1) [0, 1] rfl (by kernel_rfl) rfl (pr_move rfl rfl) (.inr rfl) rfl rfl ?_
      refine D_pure (i := 2) [0, 1] rfl (by kernel_rfl) rfl (pr_move rfl rfl) (.inr rfl) rfl rfl ?_
      refine D_pure (i := 3) [0, 1] rfl (by kernel_rfl) rfl (pr_move rfl rfl) (.inr rfl) rfl rfl ?_
      refine D_pure (i := 4) [0, 1] rfl (by kernel_rfl) rfl (pr_move rfl rfl) (.inr rfl) rfl rfl ?_
      refine D_pure (i := 6) [0, 1] rfl (by kernel_rfl) rfl (pr_move rfl rfl) (.inr rfl) rfl rfl ?_
      refine D_pure (i := 7) [0, 1] rfl (by kernel_rfl) rfl (pr_move rfl rfl) (.inr rfl) rfl rfl ?_
      refine D_pure (i := 11) [0, 1] rfl (by kernel_rfl) rfl (pr_move rfl rfl) (.inr rfl) rfl rfl ?_
      refine D_pure (i := 12) [0, 1] rfl (by kernel_rfl) rfl (pr_move rfl rfl) (.inr rfl) rfl rfl ?_
      refine D_join (T := Unit) (fun _ => True) (fun _ => [(6, (.bool ((mactag bs xs) == (mactag bs xs))))]) (fun _ => [.rd A 1 n c (xs.map b8), .rd B 1 nb d (bs.map b8)]) ?_ ?_
      · skip
        refine D_all [5, 8, 13] (by kernel_rfl) (by simp) ⟨⟨_, rfl, rfl, ?_⟩, ⟨_, rfl, rfl, ?_⟩, ⟨_, rfl, rfl, ?_⟩, trivial⟩
        · skip
          refine id (op_slice_rd (l := 0) (u := kk) 1 rfl (by first | omega | (simp; done) | (simp; omega) | (simp [*]; done) | (simp [*]; omega)) (by first | omega | (simp; done) | (simp; omega) | (simp [*]; done) | (simp [*]; omega)) Try.underlying24 (by kernel_rfl) rfl rfl rfl ⟨_, rfl⟩ rfl rfl (fun B27 => ?_))
          refine T_as 0 _ (.rd B27 1 kk d ((List.take kk bs).map b8)) rfl (by congr 1; simp [List.map_take, List.map_drop] <;> omega) ?_
          refine T_slot 30 _ (.slice B27 kk d) rfl (by congr 1) ?_
          refine D_on [1, 2] rfl ?_
          refine D_all [8, 13] (by kernel_rfl) (by simp) ⟨⟨_, rfl, rfl, ?_⟩, ⟨_, rfl, rfl, ?_⟩, trivial⟩
          · skip
            refine id (op_slice_rd (l := kk) (u := nb) 2 rfl (by first | omega | (simp; done) | (simp; omega) | (simp [*]; done) | (simp [*]; omega)) (by first | omega | (simp; done) | (simp; omega) | (simp [*]; done) | (simp [*]; omega)) Try.underlying24 (by kernel_rfl) rfl rfl ⟨_, rfl⟩ rfl rfl rfl (fun B28 => ?_))
            refine T_as 0 _ (.rd B28 1 (nb - kk) (d - kk) ((List.drop kk bs).map b8)) rfl (by congr 1; first | rfl | (rw [List.take_of_length_le (by simp; omega)]; simp)) ?_
            refine D_on [2, 3] rfl ?_
            refine D_all [9, 13] (by kernel_rfl) (by simp) ⟨⟨_, rfl, rfl, ?_⟩, ⟨_, rfl, rfl, ?_⟩, trivial⟩
            · skip
              refine id (op_bslice (e := 24) (zs := [(.slice B27 kk d), (.slice B28 (nb - kk) (d - kk))]) (qs := [(0, (.slice B27 kk d)), (1, (.slice B28 (nb - kk) (d - kk)))]) (fun _ => by kernel_rfl) rfl rfl rfl rfl (fun g29 => ?_))
              refine D_on [3, 4] rfl ?_
              refine D_all [10, 13] (by kernel_rfl) (by simp) ⟨⟨_, rfl, rfl, ?_⟩, ⟨_, rfl, rfl, ?_⟩, trivial⟩
              · skip
                refine id (op_call0 (vs := [(.slice A n c), (.slice (some ⟨g29, 0, none⟩) 2 2)]) (cap := []) (fun w hw => tag_f xs A n c [(Pt.mk B27 kk d (List.take kk bs)), (Pt.mk B28 (nb - kk) (d - kk) (List.drop kk bs))] (some ⟨g29, 0, none⟩) 2 2 w (hok_cons ((src_rd 3 rfl) w hw) (hok_cons ((src_full (z := 1) 0 rfl rfl (by first | omega | (simp; done) | (simp; omega) | (simp [*]; done) | (simp [*]; omega)) (by first | omega | (simp; done) | (simp; omega) | (simp [*]; done) | (simp [*]; omega))) w hw) (hok_cons (all_cons ((src_rd 2 rfl) w hw) (all_cons ((src_rd 1 rfl) w hw) (all_nil w))) (hok_nil w)))) (by first | assumption | omega | (simp; done) | (simp; omega)) (by first | omega | (simp; done) | (simp; omega) | (simp [*]; done) | (simp [*]; omega)) (by first | omega | (simp; done) | (simp; omega) | (simp [*]; done) | (simp [*]; omega)) (by first | omega | (simp; done) | (simp; omega) | (simp [*]; done) | (simp [*]; omega)) (by first | assumption | omega | (simp only [catp_cons, catp_nil, List.append_nil, List.length_append]; omega) | (simp [catp_cons, catp_nil]; done) | (simp [catp_cons, catp_nil]; omega))) (enters_of Try.func27 (by kernel_rfl) rfl) rfl rfl rfl rfl rfl (fun t30 q31 => ?_))
                refine T_slot 35 (.agg ((mactag xs (catp [(Pt.mk B27 kk d (List.take kk bs)), (Pt.mk B28 (nb - kk) (d - kk) (List.drop kk bs))])).map b8).toArray) (.agg ((mactag xs bs).map b8).toArray) rfl (by rw [catp_two]) ?_
                refine D_on [3, 4] rfl ?_
                refine D_one 13 _ rfl (by kernel_rfl) rfl (op_bslice (e := 24) (zs := [(.slice B nb d)]) (qs := [(0, (.slice B nb d))]) (fun _ => by kernel_rfl) rfl rfl rfl rfl (fun g32 => ?_))
                refine D_on [4, 5] rfl ?_
                refine D_one 14 _ rfl (by kernel_rfl) rfl (op_call0 (vs := [(.slice A n c), (.slice (some ⟨g32, 0, none⟩) 1 1)]) (cap := []) (fun w hw => tag_f xs A n c [(Pt.mk B nb d bs)] (some ⟨g32, 0, none⟩) 1 1 w (hok_cons ((src_rd 4 rfl) w hw) (hok_cons ((src_full (z := 1) 0 rfl rfl (by first | omega | (simp; done) | (simp; omega) | (simp [*]; done) | (simp [*]; omega)) (by first | omega | (simp; done) | (simp; omega) | (simp [*]; done) | (simp [*]; omega))) w hw) (hok_cons (all_cons ((src_rd 5 rfl) w hw) (all_nil w)) (hok_nil w)))) (by first | assumption | omega | (simp; done) | (simp; omega)) (by first | omega | (simp; done) | (simp; omega) | (simp [*]; done) | (simp [*]; omega)) (by first | omega | (simp; done) | (simp; omega) | (simp [*]; done) | (simp [*]; omega)) (by first | omega | (simp; done) | (simp; omega) | (simp [*]; done) | (simp [*]; omega)) (by first | assumption | omega | (simp only [catp_cons, catp_nil, List.append_nil, List.length_append]; omega) | (simp [catp_cons, catp_nil]; done) | (simp [catp_cons, catp_nil]; omega))) (enters_of Try.func27 (by kernel_rfl) rfl) rfl rfl rfl rfl rfl (fun t33 q34 => ?_))
                refine T_slot 39 (.agg ((mactag xs (catp [(Pt.mk B nb d bs)])).map b8).toArray) (.agg ((mactag xs bs).map b8).toArray) rfl (by rw [catp_one]) ?_
                refine D_on [4, 5] rfl ?_
                refine D_pure (i := 15) [4, 5] rfl (by kernel_rfl) rfl (pr_eqagg (bo := .eql) (c := ((mactag xs bs) == (mactag xs bs))) (r := ((mactag xs bs) == (mactag xs bs))) (eqb8 (xs := (mactag xs bs)) (ys := (mactag xs bs)) Try.underlying26 Try.underlying5 (by kernel_rfl) (by first | omega | (simp; done) | (simp; omega) | (simp [*]; done) | (simp [*]; omega)) (by first | omega | (simp; done) | (simp; omega) | (simp [*]; done) | (simp [*]; omega))) (by kernel_rfl) rfl rfl rfl rfl rfl) (.inr rfl) rfl rfl ?_
                refine D_pure (i := 16) [4, 5] rfl (by kernel_rfl) rfl (pr_pick_t rfl rfl rfl) (.inr rfl) rfl rfl ?_
                refine D_pure (i := 17) [4, 5] rfl (by kernel_rfl) rfl (pr_move rfl rfl) (.inr rfl) rfl rfl ?_
                refine T_slot 40 (.bool ((mactag xs bs) == (mactag xs bs))) (.bool true) rfl (congrArg _ (by simp)) ?_
                refine T_slot 41 (.bool ((mactag xs bs) == (mactag xs bs))) (.bool true) rfl (congrArg _ (by simp)) ?_
                refine T_slot 42 (.bool ((mactag xs bs) == (mactag xs bs))) (.bool true) rfl (congrArg _ (by simp)) ?_
                refine D_pure (i := 18) [4, 5] rfl (by kernel_rfl) rfl (pr_move rfl rfl) (.inr rfl) rfl rfl ?_
                refine D_pure (i := 20) [4, 5] rfl (by kernel_rfl) rfl (pr_move rfl rfl) (.inr rfl) rfl rfl ?_
                refine D_all [19, 21] (by kernel_rfl) (by simp) ⟨⟨_, rfl, rfl, ?_⟩, ⟨_, rfl, rfl, ?_⟩, trivial⟩
                · skip
                  refine id (op_call0 (vs := [(.slice A n c), (.slice none 0 0)]) (cap := []) (fun w hw => tag_f xs A n c [] none 0 0 w (hok_cons ((src_rd 4 rfl) w hw) (hok_cons ((src_nil 1) w hw) (hok_cons (all_nil w) (hok_nil w)))) (by first | assumption | omega | (simp; done) | (simp; omega)) (by first | omega | (simp; done) | (simp; omega) | (simp [*]; done) | (simp [*]; omega)) (by first | omega | (simp; done) | (simp; omega) | (simp [*]; done) | (simp [*]; omega)) (by first | omega | (simp; done) | (simp; omega) | (simp [*]; done) | (simp [*]; omega)) (by first | assumption | omega | (simp only [catp_cons, catp_nil, List.append_nil, List.length_append]; omega) | (simp [catp_cons, catp_nil]; done) | (simp [catp_cons, catp_nil]; omega))) (enters_of Try.func27 (by kernel_rfl) rfl) rfl rfl rfl rfl rfl (fun t35 q36 => ?_))
                  refine T_slot 44 (.agg ((mactag xs (catp [])).map b8).toArray) (.agg ((mactag xs []).map b8).toArray) rfl (rfl) ?_
                  refine D_on [4, 5] rfl ?_
                  refine D_one 21 _ rfl (by kernel_rfl) rfl (op_bslice (e := 24) (zs := [(.slice none 0 0), (.slice none 0 0)]) (qs := [(0, (.slice none 0 0)), (1, (.slice none 0 0))]) (fun _ => by kernel_rfl) rfl rfl rfl rfl (fun g37 => ?_))
                  refine D_on [5, 6] rfl ?_
                  refine D_one 22 _ rfl (by kernel_rfl) rfl (op_call0 (vs := [(.slice A n c), (.slice (some ⟨g37, 0, none⟩) 2 2)]) (cap := []) (fun w hw => tag_f xs A n c ([(Pt.mk none 0 0 []), (Pt.mk none 0 0 [])]) (some ⟨g37, 0, none⟩) 2 2 w (hok_cons ((src_rd 5 rfl) w hw) (hok_cons ((src_full (z := 1) 0 rfl rfl (by first | omega | (simp; done) | (simp; omega) | (simp [*]; done) | (simp [*]; omega)) (by first | omega | (simp; done) | (simp; omega) | (simp [*]; done) | (simp [*]; omega))) w hw) (hok_cons (all_cons ((src_nil 1) w hw) (all_cons ((src_nil 1) w hw) (all_nil w))) (hok_nil w)))) (by first | assumption | omega | (simp; done) | (simp; omega)) (by first | omega | (simp; done) | (simp; omega) | (simp [*]; done) | (simp [*]; omega)) (by first | omega | (simp; done) | (simp; omega) | (simp [*]; done) | (simp [*]; omega)) (by first | omega | (simp; done) | (simp; omega) | (simp [*]; done) | (simp [*]; omega)) (by first | assumption | omega | (simp only [catp_cons, catp_nil, List.append_nil, List.length_append]; omega) | (simp [catp_cons, catp_nil]; done) | (simp [catp_cons, catp_nil]; omega))) (enters_of Try.func27 (by kernel_rfl) rfl) rfl rfl rfl rfl rfl (fun t38 q39 => ?_))
                  refine T_slot 47 (.agg ((mactag xs (catp ([(Pt.mk none 0 0 []), (Pt.mk none 0 0 [])]))).map b8).toArray) (.agg ((mactag xs []).map b8).toArray) rfl (by simp [catp]) ?_
                  refine D_on [5, 6] rfl ?_
                  refine D_pure (i := 23) [5, 6] rfl (by kernel_rfl) rfl (pr_eqagg (bo := .eql) (c := ((mactag xs []) == (mactag xs []))) (r := ((mactag xs []) == (mactag xs []))) (eqb8 (xs := (mactag xs [])) (ys := (mactag xs [])) Try.underlying26 Try.underlying5 (by kernel_rfl) (by first | omega | (simp; done) | (simp; omega) | (simp [*]; done) | (simp [*]; omega)) (by first | omega | (simp; done) | (simp; omega) | (simp [*]; done) | (simp [*]; omega))) (by kernel_rfl) rfl rfl rfl rfl rfl) (.inr rfl) rfl rfl ?_
                  refine D_pure (i := 24) [5, 6] rfl (by kernel_rfl) rfl (pr_pick_t rfl rfl rfl) (.inr rfl) rfl rfl ?_
                  refine D_pure (i := 25) [5, 6] rfl (by kernel_rfl) rfl (pr_move rfl rfl) (.inr rfl) rfl rfl ?_
                  refine T_slot 48 (.bool ((mactag xs []) == (mactag xs []))) (.bool true) rfl (congrArg _ (by simp)) ?_
                  refine T_slot 49 (.bool ((mactag xs []) == (mactag xs []))) (.bool true) rfl (congrArg _ (by simp)) ?_
                  refine T_slot 50 (.bool ((mactag xs []) == (mactag xs []))) (.bool true) rfl (congrArg _ (by simp)) ?_
                  refine D_pure (i := 26) [5, 6] rfl (by kernel_rfl) rfl (pr_move rfl rfl) (.inr rfl) rfl rfl ?_
                  refine D_pure (i := 27) [5, 6] rfl (by kernel_rfl) rfl (pr_move rfl rfl) (.inr rfl) rfl rfl ?_
                  refine D_pure (i := 30) [5, 6] rfl (by kernel_rfl) rfl (pr_move rfl rfl) (.inr rfl) rfl rfl ?_
                  refine D_pure (i := 31) [5, 6] rfl (by kernel_rfl) rfl (pr_move rfl rfl) (.inr rfl) rfl rfl ?_
                  refine D_one 28 _ rfl (by kernel_rfl) rfl (op_bslice (e := 24) (zs := [(.slice A n c)]) (qs := [(0, (.slice A n c))]) (fun _ => by kernel_rfl) rfl rfl rfl rfl (fun g40 => ?_))
                  refine D_on [6, 7] rfl ?_
                  refine D_one 29 _ rfl (by kernel_rfl) rfl (op_call0 (vs := [(.slice B nb d), (.slice (some ⟨g40, 0, none⟩) 1 1)]) (cap := []) (fun w hw => tag_f bs B nb d [(Pt.mk A n c xs)] (some ⟨g40, 0, none⟩) 1 1 w (hok_cons ((src_rd 7 rfl) w hw) (hok_cons ((src_full (z := 1) 0 rfl rfl (by first | omega | (simp; done) | (simp; omega) | (simp [*]; done) | (simp [*]; omega)) (by first | omega | (simp; done) | (simp; omega) | (simp [*]; done) | (simp [*]; omega))) w hw) (hok_cons (all_cons ((src_rd 6 rfl) w hw) (all_nil w)) (hok_nil w)))) (by first | assumption | omega | (simp; done) | (simp; omega)) (by first | omega | (simp; done) | (simp; omega) | (simp [*]; done) | (simp [*]; omega)) (by first | omega | (simp; done) | (simp; omega) | (simp [*]; done) | (simp [*]; omega)) (by first | omega | (simp; done) | (simp; omega) | (simp [*]; done) | (simp [*]; omega)) (by first | assumption | omega | (simp only [catp_cons, catp_nil, List.append_nil, List.length_append]; omega) | (simp [catp_cons, catp_nil]; done) | (simp [catp_cons, catp_nil]; omega))) (enters_of Try.func27 (by kernel_rfl) rfl) rfl rfl rfl rfl rfl (fun t41 q42 => ?_))
                  refine T_slot 54 (.agg ((mactag bs (catp [(Pt.mk A n c xs)])).map b8).toArray) (.agg ((mactag bs xs).map b8).toArray) rfl (by rw [catp_one]) ?_
                  refine D_on [6, 7] rfl ?_
                  refine D_one 32 _ rfl (by kernel_rfl) rfl (op_call0 (vs := [(.slice B nb d), (.slice A n c)]) (cap := []) (fun w hw => rtag_f bs B nb d xs A n c w (hok_cons ((src_rd 7 rfl) w hw) (hok_cons ((src_rd 6 rfl) w hw) (hok_nil w))) (by first | assumption | omega | (simp; done) | (simp; omega)) (by first | omega | (simp; done) | (simp; omega) | (simp [*]; done) | (simp [*]; omega)) (by first | assumption | omega | (simp; done) | (simp; omega)) (by first | omega | (simp; done) | (simp; omega) | (simp [*]; done) | (simp [*]; omega))) (enters_of Try.func28 (by kernel_rfl) rfl) rfl rfl rfl rfl rfl (fun t43 q44 => ?_))
                  refine D_on [6, 7] rfl ?_
                  refine D_pure (i := 33) [6, 7] rfl (by kernel_rfl) rfl (pr_eqagg (bo := .eql) (c := ((mactag bs xs) == (mactag bs xs))) (r := ((mactag bs xs) == (mactag bs xs))) (eqb8 (xs := (mactag bs xs)) (ys := (mactag bs xs)) Try.underlying26 Try.underlying5 (by kernel_rfl) (by first | omega | (simp; done) | (simp; omega) | (simp [*]; done) | (simp [*]; omega)) (by first | omega | (simp; done) | (simp; omega) | (simp [*]; done) | (simp [*]; omega))) (by kernel_rfl) rfl rfl rfl rfl rfl) (.inr rfl) rfl rfl ?_
                  refine D_pure (i := 34) [6, 7] rfl (by kernel_rfl) rfl (pr_pick_t rfl rfl rfl) (.inr rfl) rfl rfl ?_
                  refine D_pure (i := 35) [6, 7] rfl (by kernel_rfl) rfl (pr_assign rfl rfl) (.inr rfl) rfl rfl ?_
                  refine D_done (by kernel_rfl) ?_
                  exact T_meet () trivial (sc rfl sn) [6, 7] ⟨by decide, rfl⟩
                · skip
                  refine id (op_bslice (e := 24) (zs := [(.slice none 0 0), (.slice none 0 0)]) (qs := [(0, (.slice none 0 0)), (1, (.slice none 0 0))]) (fun _ => by kernel_rfl) rfl rfl rfl rfl (fun g45 => ?_))
                  refine D_on [5, 6] rfl ?_
                  refine D_one 19 _ rfl (by kernel_rfl) rfl (op_call0 (vs := [(.slice A n c), (.slice none 0 0)]) (cap := []) (fun w hw => tag_f xs A n c [] none 0 0 w (hok_cons ((src_rd 5 rfl) w hw) (hok_cons ((src_nil 1) w hw) (hok_cons (all_nil w) (hok_nil w)))) (by first | assumption | omega | (simp; done) | (simp; omega)) (by first | omega | (simp; done) | (simp; omega) | (simp [*]; done) | (simp [*]; omega)) (by first | omega | (simp; done) | (simp; omega) | (simp [*]; done) | (simp [*]; omega)) (by first | omega | (simp; done) | (simp; omega) | (simp [*]; done) | (simp [*]; omega)) (by first | assumption | omega | (simp only [catp_cons, catp_nil, List.append_nil, List.length_append]; omega) | (simp [catp_cons, catp_nil]; done) | (simp [catp_cons, catp_nil]; omega))) (enters_of Try.func27 (by kernel_rfl) rfl) rfl rfl rfl rfl rfl (fun t46 q47 => ?_))
                  refine T_slot 44 (.agg ((mactag xs (catp [])).map b8).toArray) (.agg ((mactag xs []).map b8).toArray) rfl (rfl) ?_
                  refine D_on [5, 6] rfl ?_
                  refine D_one 22 _ rfl (by kernel_rfl) rfl (op_call0 (vs := [(.slice A n c), (.slice (some ⟨g45, 0, none⟩) 2 2)]) (cap := []) (fun w hw => tag_f xs A n c ([(Pt.mk none 0 0 []), (Pt.mk none 0 0 [])]) (some ⟨g45, 0, none⟩) 2 2 w (hok_cons ((src_rd 5 rfl) w hw) (hok_cons ((src_full (z := 1) 0 rfl rfl (by first | omega | (simp; done) | (simp; omega) | (simp [*]; done) | (simp [*]; omega)) (by first | omega | (simp; done) | (simp; omega) | (simp [*]; done) | (simp [*]; omega))) w hw) (hok_cons (all_cons ((src_nil 1) w hw) (all_cons ((src_nil 1) w hw) (all_nil w))) (hok_nil w)))) (by first | assumption | omega | (simp; done) | (simp; omega)) (by first | omega | (simp; done) | (simp; omega) | (simp [*]; done) | (simp [*]; omega)) (by first | omega | (simp; done) | (simp; omega) | (simp [*]; done) | (simp [*]; omega)) (by first | omega | (simp; done) | (simp; omega) | (simp [*]; done) | (simp [*]; omega)) (by first | assumption | omega | (simp only [catp_cons, catp_nil, List.append_nil, List.length_append]; omega) | (simp [catp_cons, catp_nil]; done) | (simp [catp_cons, catp_nil]; omega))) (enters_of Try.func27 (by kernel_rfl) rfl) rfl rfl rfl rfl rfl (fun t48 q49 => ?_))
                  refine T_slot 47 (.agg ((mactag xs (catp ([(Pt.mk none 0 0 []), (Pt.mk none 0 0 [])]))).map b8).toArray) (.agg ((mactag xs []).map b8).toArray) rfl (by simp [catp]) ?_
                  refine D_on [5, 6] rfl ?_
                  refine D_pure (i := 23) [5, 6] rfl (by kernel_rfl) rfl (pr_eqagg (bo := .eql) (c := ((mactag xs []) == (mactag xs []))) (r := ((mactag xs []) == (mactag xs []))) (eqb8 (xs := (mactag xs [])) (ys := (mactag xs [])) Try.underlying26 Try.underlying5 (by kernel_rfl) (by first | omega | (simp; done) | (simp; omega) | (simp [*]; done) | (simp [*]; omega)) (by first | omega | (simp; done) | (simp; omega) | (simp [*]; done) | (simp [*]; omega))) (by kernel_rfl) rfl rfl rfl rfl rfl) (.inr rfl) rfl rfl ?_
                  refine D_pure (i := 24) [5, 6] rfl (by kernel_rfl) rfl (pr_pick_t rfl rfl rfl) (.inr rfl) rfl rfl ?_
                  refine D_pure (i := 25) [5, 6] rfl (by kernel_rfl) rfl (pr_move rfl rfl) (.inr rfl) rfl rfl ?_
                  refine T_slot 48 (.bool ((mactag xs []) == (mactag xs []))) (.bool true) rfl (congrArg _ (by simp)) ?_
                  refine T_slot 49 (.bool ((mactag xs []) == (mactag xs []))) (.bool true) rfl (congrArg _ (by simp)) ?_
                  refine T_slot 50 (.bool ((mactag xs []) == (mactag xs []))) (.bool true) rfl (congrArg _ (by simp)) ?_
                  refine D_pure (i := 26) [5, 6] rfl (by kernel_rfl) rfl (pr_move rfl rfl) (.inr rfl) rfl rfl ?_
                  refine D_pure (i := 27) [5, 6] rfl (by kernel_rfl) rfl (pr_move rfl rfl) (.inr rfl) rfl rfl ?_
                  refine D_pure (i := 30) [5, 6] rfl (by kernel_rfl) rfl (pr_move rfl rfl) (.inr rfl) rfl rfl ?_
                  refine D_pure (i := 31) [5, 6] rfl (by kernel_rfl) rfl (pr_move rfl rfl) (.inr rfl) rfl rfl ?_
                  refine D_one 28 _ rfl (by kernel_rfl) rfl (op_bslice (e := 24) (zs := [(.slice A n c)]) (qs := [(0, (.slice A n c))]) (fun _ => by kernel_rfl) rfl rfl rfl rfl (fun g50 => ?_))
                  refine D_on [6, 7] rfl ?_
                  refine D_one 29 _ rfl (by kernel_rfl) rfl (op_call0 (vs := [(.slice B nb d), (.slice (some ⟨g50, 0, none⟩) 1 1)]) (cap := []) (fun w hw => tag_f bs B nb d [(Pt.mk A n c xs)] (some ⟨g50, 0, none⟩) 1 1 w (hok_cons ((src_rd 7 rfl) w hw) (hok_cons ((src_full (z := 1) 0 rfl rfl (by first | omega | (simp; done) | (simp; omega) | (simp [*]; done) | (simp [*]; omega)) (by first | omega | (simp; done) | (simp; omega) | (simp [*]; done) | (simp [*]; omega))) w hw) (hok_cons (all_cons ((src_rd 6 rfl) w hw) (all_nil w)) (hok_nil w)))) (by first | assumption | omega | (simp; done) | (simp; omega)) (by first | omega | (simp; done) | (simp; omega) | (simp [*]; done) | (simp [*]; omega)) (by first | omega | (simp; done) | (simp; omega) | (simp [*]; done) | (simp [*]; omega)) (by first | omega | (simp; done) | (simp; omega) | (simp [*]; done) | (simp [*]; omega)) (by first | assumption | omega | (simp only [catp_cons, catp_nil, List.append_nil, List.length_append]; omega) | (simp [catp_cons, catp_nil]; done) | (simp [catp_cons, catp_nil]; omega))) (enters_of Try.func27 (by kernel_rfl) rfl) rfl rfl rfl rfl rfl (fun t51 q52 => ?_))
                  refine T_slot 54 (.agg ((mactag bs (catp [(Pt.mk A n c xs)])).map b8).toArray) (.agg ((mactag bs xs).map b8).toArray) rfl (by rw [catp_one]) ?_
                  refine D_on [6, 7] rfl ?_
                  refine D_one 32 _ rfl (by kernel_rfl) rfl (op_call0 (vs := [(.slice B nb d), (.slice A n c)]) (cap := []) (fun w hw => rtag_f bs B nb d xs A n c w (hok_cons ((src_rd 7 rfl) w hw) (hok_cons ((src_rd 6 rfl) w hw) (hok_nil w))) (by first | assumption | omega | (simp; done) | (simp; omega)) (by first | omega | (simp; done) | (simp; omega) | (simp [*]; done) | (simp [*]; omega)) (by first | assumption | omega | (simp; done) | (simp; omega)) (by first | omega | (simp; done) | (simp; omega) | (simp [*]; done) | (simp [*]; omega))) (enters_of Try.func28 (by kernel_rfl) rfl) rfl rfl rfl rfl rfl (fun t53 q54 => ?_))
                  refine D_on [6, 7] rfl ?_
                  refine D_pure (i := 33) [6, 7] rfl (by kernel_rfl) rfl (pr_eqagg (bo := .eql) (c := ((mactag bs xs) == (mactag bs xs))) (r := ((mactag bs xs) == (mactag bs xs))) (eqb8 (xs := (mactag bs xs)) (ys := (mactag bs xs)) Try.underlying26 Try.underlying5 (by kernel_rfl) (by first | omega | (simp; done) | (simp; omega) | (simp [*]; done) | (simp [*]; omega)) (by first | omega | (simp; done) | (simp; omega) | (simp [*]; done) | (simp [*]; omega))) (by kernel_rfl) rfl rfl rfl rfl rfl) (.inr rfl) rfl rfl ?_
                  refine D_pure (i := 34) [6, 7] rfl (by kernel_rfl) rfl (pr_pick_t rfl rfl rfl) (.inr rfl) rfl rfl ?_
                  refine D_pure (i := 35) [6, 7] rfl (by kernel_rfl) rfl (pr_assign rfl rfl) (.inr rfl) rfl rfl ?_
                  refine D_done (by kernel_rfl) ?_
                  exact T_meet () trivial (sc rfl sn) [6, 7] ⟨by decide, rfl⟩
              · skip
                refine id (op_bslice (e := 24) (zs := [(.slice B nb d)]) (qs := [(0, (.slice B nb d))]) (fun _ => by kernel_rfl) rfl rfl rfl rfl (fun g55 => ?_))
                refine D_on [4, 5] rfl ?_
                refine D_one 10 _ rfl (by kernel_rfl) rfl (op_call0 (vs := [(.slice A n c), (.slice (some ⟨g29, 0, none⟩) 2 2)]) (cap := []) (fun w hw => tag_f xs A n c [(Pt.mk B27 kk d (List.take kk bs)), (Pt.mk B28 (nb - kk) (d - kk) (List.drop kk bs))] (some ⟨g29, 0, none⟩) 2 2 w (hok_cons ((src_rd 4 rfl) w hw) (hok_cons ((src_full (z := 1) 1 rfl rfl (by first | omega | (simp; done) | (simp; omega) | (simp [*]; done) | (simp [*]; omega)) (by first | omega | (simp; done) | (simp; omega) | (simp [*]; done) | (simp [*]; omega))) w hw) (hok_cons (all_cons ((src_rd 3 rfl) w hw) (all_cons ((src_rd 2 rfl) w hw) (all_nil w))) (hok_nil w)))) (by first | assumption | omega | (simp; done) | (simp; omega)) (by first | omega | (simp; done) | (simp; omega) | (simp [*]; done) | (simp [*]; omega)) (by first | omega | (simp; done) | (simp; omega) | (simp [*]; done) | (simp [*]; omega)) (by first | omega | (simp; done) | (simp; omega) | (simp [*]; done) | (simp [*]; omega)) (by first | assumption | omega | (simp only [catp_cons, catp_nil, List.append_nil, List.length_append]; omega) | (simp [catp_cons, catp_nil]; done) | (simp [catp_cons, catp_nil]; omega))) (enters_of Try.func27 (by kernel_rfl) rfl) rfl rfl rfl rfl rfl (fun t56 q57 => ?_))
                refine T_slot 35 (.agg ((mactag xs (catp [(Pt.mk B27 kk d (List.take kk bs)), (Pt.mk B28 (nb - kk) (d - kk) (List.drop kk bs))])).map b8).toArray) (.agg ((mactag xs bs).map b8).toArray) rfl (by rw [catp_two]) ?_
                refine D_on [4, 5] rfl ?_
                refine D_one 14 _ rfl (by kernel_rfl) rfl (op_call0 (vs := [(.slice A n c), (.slice (some ⟨g55, 0, none⟩) 1 1)]) (cap := []) (fun w hw => tag_f xs A n c [(Pt.mk B nb d bs)] (some ⟨g55, 0, none⟩) 1 1 w (hok_cons ((src_rd 4 rfl) w hw) (hok_cons ((src_full (z := 1) 0 rfl rfl (by first | omega | (simp; done) | (simp; omega) | (simp [*]; done) | (simp [*]; omega)) (by first | omega | (simp; done) | (simp; omega) | (simp [*]; done) | (simp [*]; omega))) w hw) (hok_cons (all_cons ((src_rd 5 rfl) w hw) (all_nil w)) (hok_nil w)))) (by first | assumption | omega | (simp; done) | (simp; omega)) (by first | omega | (simp; done) | (simp; omega) | (simp [*]; done) | (simp [*]; omega)) (by first | omega | (simp; done) | (simp; omega) | (simp [*]; done) | (simp [*]; omega)) (by first | omega | (simp; done) | (simp; omega) | (simp [*]; done) | (simp [*]; omega)) (by first | assumption | omega | (simp only [catp_cons, catp_nil, List.append_nil, List.length_append]; omega) | (simp [catp_cons, catp_nil]; done) | (simp [catp_cons, catp_nil]; omega))) (enters_of Try.func27 (by kernel_rfl) rfl) rfl rfl rfl rfl rfl (fun t58 q59 => ?_))
                refine T_slot 39 (.agg ((mactag xs (catp [(Pt.mk B nb d bs)])).map b8).toArray) (.agg ((mactag xs bs).map b8).toArray) rfl (by rw [catp_one]) ?_
                refine D_on [4, 5] rfl ?_
                refine D_pure (i := 15) [4, 5] rfl (by kernel_rfl) rfl (pr_eqagg (bo := .eql) (c := ((mactag xs bs) == (mactag xs bs))) (r := ((mactag xs bs) == (mactag xs bs))) (eqb8 (xs := (mactag xs bs)) (ys := (mactag xs bs)) Try.underlying26 Try.underlying5 (by kernel_rfl) (by first | omega | (simp; done) | (simp; omega) | (simp [*]; done) | (simp [*]; omega)) (by first | omega | (simp; done) | (simp; omega) | (simp [*]; done) | (simp [*]; omega))) (by kernel_rfl) rfl rfl rfl rfl rfl) (.inr rfl) rfl rfl ?_
                refine D_pure (i := 16) [4, 5] rfl (by kernel_rfl) rfl (pr_pick_t rfl rfl rfl) (.inr rfl) rfl rfl ?_
                refine D_pure (i := 17) [4, 5] rfl (by kernel_rfl) rfl (pr_move rfl rfl) (.inr rfl) rfl rfl ?_
                refine T_slot 40 (.bool ((mactag xs bs) == (mactag xs bs))) (.bool true) rfl (congrArg _ (by simp)) ?_
                refine T_slot 41 (.bool ((mactag xs bs) == (mactag xs bs))) (.bool true) rfl (congrArg _ (by simp)) ?_
                refine T_slot 42 (.bool ((mactag xs bs) == (mactag xs bs))) (.bool true) rfl (congrArg _ (by simp)) ?_
                refine D_pure (i := 18) [4, 5] rfl (by kernel_rfl) rfl (pr_move rfl rfl) (.inr rfl) rfl rfl ?_
                refine D_pure (i := 20) [4, 5] rfl (by kernel_rfl) rfl (pr_move rfl rfl) (.inr rfl) rfl rfl ?_
                refine D_all [19, 21] (by kernel_rfl) (by simp) ⟨⟨_, rfl, rfl, ?_⟩, ⟨_, rfl, rfl, ?_⟩, trivial⟩
                · skip
                  refine id (op_call0 (vs := [(.slice A n c), (.slice none 0 0)]) (cap := []) (fun w hw => tag_f xs A n c [] none 0 0 w (hok_cons ((src_rd 4 rfl) w hw) (hok_cons ((src_nil 1) w hw) (hok_cons (all_nil w) (hok_nil w)))) (by first | assumption | omega | (simp; done) | (simp; omega)) (by first | omega | (simp; done) | (simp; omega) | (simp [*]; done) | (simp [*]; omega)) (by first | omega | (simp; done) | (simp; omega) | (simp [*]; done) | (simp [*]; omega)) (by first | omega | (simp; done) | (simp; omega) | (simp [*]; done) | (simp [*]; omega)) (by first | assumption | omega | (simp only [catp_cons, catp_nil, List.append_nil, List.length_append]; omega) | (simp [catp_cons, catp_nil]; done) | (simp [catp_cons, catp_nil]; omega))) (enters_of Try.func27 (by kernel_rfl) rfl) rfl rfl rfl rfl rfl (fun t60 q61 => ?_))
                  refine T_slot 44 (.agg ((mactag xs (catp [])).map b8).toArray) (.agg ((mactag xs []).map b8).toArray) rfl (rfl) ?_
                  refine D_on [4, 5] rfl ?_
                  refine D_one 21 _ rfl (by kernel_rfl) rfl (op_bslice (e := 24) (zs := [(.slice none 0 0), (.slice none 0 0)]) (qs := [(0, (.slice none 0 0)), (1, (.slice none 0 0))]) (fun _ => by kernel_rfl) rfl rfl rfl rfl (fun g62 => ?_))
                  refine D_on [5, 6] rfl ?_
                  refine D_one 22 _ rfl (by kernel_rfl) rfl (op_call0 (vs := [(.slice A n c), (.slice (some ⟨g62, 0, none⟩) 2 2)]) (cap := []) (fun w hw => tag_f xs A n c ([(Pt.mk none 0 0 []), (Pt.mk none 0 0 [])]) (some ⟨g62, 0, none⟩) 2 2 w (hok_cons ((src_rd 5 rfl) w hw) (hok_cons ((src_full (z := 1) 0 rfl rfl (by first | omega | (simp; done) | (simp; omega) | (simp [*]; done) | (simp [*]; omega)) (by first | omega | (simp; done) | (simp; omega) | (simp [*]; done) | (simp [*]; omega))) w hw) (hok_cons (all_cons ((src_nil 1) w hw) (all_cons ((src_nil 1) w hw) (all_nil w))) (hok_nil w)))) (by first | assumption | omega | (simp; done) | (simp; omega)) (by first | omega | (simp; done) | (simp; omega) | (simp [*]; done) | (simp [*]; omega)) (by first | omega | (simp; done) | (simp; omega) | (simp [*]; done) | (simp [*]; omega)) (by first | omega | (simp; done) | (simp; omega) | (simp [*]; done) | (simp [*]; omega)) (by first | assumption | omega | (simp only [catp_cons, catp_nil, List.append_nil, List.length_append]; omega) | (simp [catp_cons, catp_nil]; done) | (simp [catp_cons, catp_nil]; omega))) (enters_of Try.func27 (by kernel_rfl) rfl) rfl rfl rfl rfl rfl (fun t63 q64 => ?_))
                  refine T_slot 47 (.agg ((mactag xs (catp ([(Pt.mk none 0 0 []), (Pt.mk none 0 0 [])]))).map b8).toArray) (.agg ((mactag xs []).map b8).toArray) rfl (by simp [catp]) ?_
                  refine D_on [5, 6] rfl ?_
                  refine D_pure (i := 23) [5, 6] rfl (by kernel_rfl) rfl (pr_eqagg (bo := .eql) (c := ((mactag xs []) == (mactag xs []))) (r := ((mactag xs []) == (mactag xs []))) (eqb8 (xs := (mactag xs [])) (ys := (mactag xs [])) Try.underlying26 Try.underlying5 (by kernel_rfl) (by first | omega | (simp; done) | (simp; omega) | (simp [*]; done) | (simp [*]; omega)) (by first | omega | (simp; done) | (simp; omega) | (simp [*]; done) | (simp [*]; omega))) (by kernel_rfl) rfl rfl rfl rfl rfl) (.inr rfl) rfl rfl ?_
                  refine D_pure (i := 24) [5, 6] rfl (by kernel_rfl) rfl (pr_pick_t rfl rfl rfl) (.inr rfl) rfl rfl ?_
                  refine D_pure (i := 25) [5, 6] rfl (by kernel_rfl) rfl (pr_move rfl rfl) (.inr rfl) rfl rfl ?_
                  refine T_slot 48 (.bool ((mactag xs []) == (mactag xs []))) (.bool true) rfl (congrArg _ (by simp)) ?_
                  refine T_slot 49 (.bool ((mactag xs []) == (mactag xs []))) (.bool true) rfl (congrArg _ (by simp)) ?_
                  refine T_slot 50 (.bool ((mactag xs []) == (mactag xs []))) (.bool true) rfl (congrArg _ (by simp)) ?_
                  refine D_pure (i := 26) [5, 6] rfl (by kernel_rfl) rfl (pr_move rfl rfl) (.inr rfl) rfl rfl ?_
                  refine D_pure (i := 27) [5, 6] rfl (by kernel_rfl) rfl (pr_move rfl rfl) (.inr rfl) rfl rfl ?_
                  refine D_pure (i := 30) [5, 6] rfl (by kernel_rfl) rfl (pr_move rfl rfl) (.inr rfl) rfl rfl ?_
                  refine D_pure (i := 31) [5, 6] rfl (by kernel_rfl) rfl (pr_move rfl rfl) (.inr rfl) rfl rfl ?_
                  refine D_one 28 _ rfl (by kernel_rfl) rfl (op_bslice (e := 24) (zs := [(.slice A n c)]) (qs := [(0, (.slice A n c))]) (fun _ => by kernel_rfl) rfl rfl rfl rfl (fun g65 => ?_))
                  refine D_on [6, 7] rfl ?_
                  refine D_one 29 _ rfl (by kernel_rfl) rfl (op_call0 (vs := [(.slice B nb d), (.slice (some ⟨g65, 0, none⟩) 1 1)]) (cap := []) (fun w hw => tag_f bs B nb d [(Pt.mk A n c xs)] (some ⟨g65, 0, none⟩) 1 1 w (hok_cons ((src_rd 7 rfl) w hw) (hok_cons ((src_full (z := 1) 0 rfl rfl (by first | omega | (simp; done) | (simp; omega) | (simp [*]; done) | (simp [*]; omega)) (by first | omega | (simp; done) | (simp; omega) | (simp [*]; done) | (simp [*]; omega))) w hw) (hok_cons (all_cons ((src_rd 6 rfl) w hw) (all_nil w)) (hok_nil w)))) (by first | assumption | omega | (simp; done) | (simp; omega)) (by first | omega | (simp; done) | (simp; omega) | (simp [*]; done) | (simp [*]; omega)) (by first | omega | (simp; done) | (simp; omega) | (simp [*]; done) | (simp [*]; omega)) (by first | omega | (simp; done) | (simp; omega) | (simp [*]; done) | (simp [*]; omega)) (by first | assumption | omega | (simp only [catp_cons, catp_nil, List.append_nil, List.length_append]; omega) | (simp [catp_cons, catp_nil]; done) | (simp [catp_cons, catp_nil]; omega))) (enters_of Try.func27 (by kernel_rfl) rfl) rfl rfl rfl rfl rfl (fun t66 q67 => ?_))
                  refine T_slot 54 (.agg ((mactag bs (catp [(Pt.mk A n c xs)])).map b8).toArray) (.agg ((mactag bs xs).map b8).toArray) rfl (by rw [catp_one]) ?_
                  refine D_on [6, 7] rfl ?_
                  refine D_one 32 _ rfl (by kernel_rfl) rfl (op_call0 (vs := [(.slice B nb d), (.slice A n c)]) (cap := []) (fun w hw => rtag_f bs B nb d xs A n c w (hok_cons ((src_rd 7 rfl) w hw) (hok_cons ((src_rd 6 rfl) w hw) (hok_nil w))) (by first | assumption | omega | (simp; done) | (simp; omega)) (by first | omega | (simp; done) | (simp; omega) | (simp [*]; done) | (simp [*]; omega)) (by first | assumption | omega | (simp; done) | (simp; omega)) (by first | omega | (simp; done) | (simp; omega) | (simp [*]; done) | (simp [*]; omega))) (enters_of Try.func28 (by kernel_rfl) rfl) rfl rfl rfl rfl rfl (fun t68 q69 => ?_))
                  refine D_on [6, 7] rfl ?_
                  refine D_pure (i := 33) [6, 7] rfl (by kernel_rfl) rfl (pr_eqagg (bo := .eql) (c := ((mactag bs xs) == (mactag bs xs))) (r := ((mactag bs xs) == (mactag bs xs))) (eqb8 (xs := (mactag bs xs)) (ys := (mactag bs xs)) Try.underlying26 Try.underlying5 (by kernel_rfl) (by first | omega | (simp; done) | (simp; omega) | (simp [*]; done) | (simp [*]; omega)) (by first | omega | (simp; done) | (simp; omega) | (simp [*]; done) | (simp [*]; omega))) (by kernel_rfl) rfl rfl rfl rfl rfl) (.inr rfl) rfl rfl ?_
                  refine D_pure (i := 34) [6, 7] rfl (by kernel_rfl) rfl (pr_pick_t rfl rfl rfl) (.inr rfl) rfl rfl ?_
                  refine D_pure (i := 35) [6, 7] rfl (by kernel_rfl) rfl (pr_assign rfl rfl) (.inr rfl) rfl rfl ?_
                  refine D_done (by kernel_rfl) ?_
                  exact T_meet () trivial (sc rfl sn) [6, 7] ⟨by decide, rfl⟩
                · skip
                  refine id (op_bslice (e := 24) (zs := [(.slice none 0 0), (.slice none 0 0)]) (qs := [(0, (.slice none 0 0)), (1, (.slice none 0 0))]) (fun _ => by kernel_rfl) rfl rfl rfl rfl (fun g70 => ?_))
                  refine D_on [5, 6] rfl ?_
                  refine D_one 19 _ rfl (by kernel_rfl) rfl (op_call0 (vs := [(.slice A n c), (.slice none 0 0)]) (cap := []) (fun w hw => tag_f xs A n c [] none 0 0 w (hok_cons ((src_rd 5 rfl) w hw) (hok_cons ((src_nil 1) w hw) (hok_cons (all_nil w) (hok_nil w)))) (by first | assumption | omega | (simp; done) | (simp; omega)) (by first | omega | (simp; done) | (simp; omega) | (simp [*]; done) | (simp [*]; omega)) (by first | omega | (simp; done) | (simp; omega) | (simp [*]; done) | (simp [*]; omega)) (by first | omega | (simp; done) | (simp; omega) | (simp [*]; done) | (simp [*]; omega)) (by first | assumption | omega | (simp only [catp_cons, catp_nil, List.append_nil, List.length_append]; omega) | (simp [catp_cons, catp_nil]; done) | (simp [catp_cons, catp_nil]; omega))) (enters_of Try.func27 (by kernel_rfl) rfl) rfl rfl rfl rfl rfl (fun t71 q72 => ?_))
                  refine T_slot 44 (.agg ((mactag xs (catp [])).map b8).toArray) (.agg ((mactag xs []).map b8).toArray) rfl (rfl) ?_
                  refine D_on [5, 6] rfl ?_
                  refine D_one 22 _ rfl (by kernel_rfl) rfl (op_call0 (vs := [(.slice A n c), (.slice (some ⟨g70, 0, none⟩) 2 2)]) (cap := []) (fun w hw => tag_f xs A n c ([(Pt.mk none 0 0 []), (Pt.mk none 0 0 [])]) (some ⟨g70, 0, none⟩) 2 2 w (hok_cons ((src_rd 5 rfl) w hw) (hok_cons ((src_full (z := 1) 0 rfl rfl (by first | omega | (simp; done) | (simp; omega) | (simp [*]; done) | (simp [*]; omega)) (by first | omega | (simp; done) | (simp; omega) | (simp [*]; done) | (simp [*]; omega))) w hw) (hok_cons (all_cons ((src_nil 1) w hw) (all_cons ((src_nil 1) w hw) (all_nil w))) (hok_nil w)))) (by first | assumption | omega | (simp; done) | (simp; omega)) (by first | omega | (simp; done) | (simp; omega) | (simp [*]; done) | (simp [*]; omega)) (by first | omega | (simp; done) | (simp; omega) | (simp [*]; done) | (simp [*]; omega)) (by first | omega | (simp; done) | (simp; omega) | (simp [*]; done) | (simp [*]; omega)) (by first | assumption | omega | (simp only [catp_cons, catp_nil, List.append_nil, List.length_append]; omega) | (simp [catp_cons, catp_nil]; done) | (simp [catp_cons, catp_nil]; omega))) (enters_of Try.func27 (by kernel_rfl) rfl) rfl rfl rfl rfl rfl (fun t73 q74 => ?_))
                  refine T_slot 47 (.agg ((mactag xs (catp ([(Pt.mk none 0 0 []), (Pt.mk none 0 0 [])]))).map b8).toArray) (.agg ((mactag xs []).map b8).toArray) rfl (by simp [catp]) ?_
                  refine D_on [5, 6] rfl ?_
                  refine D_pure (i := 23) [5, 6] rfl (by kernel_rfl) rfl (pr_eqagg (bo := .eql) (c := ((mactag xs []) == (mactag xs []))) (r := ((mactag xs []) == (mactag xs []))) (eqb8 (xs := (mactag xs [])) (ys := (mactag xs [])) Try.underlying26 Try.underlying5 (by kernel_rfl) (by first | omega | (simp; done) | (simp; omega) | (simp [*]; done) | (simp [*]; omega)) (by first | omega | (simp; done) | (simp; omega) | (simp [*]; done) | (simp [*]; omega))) (by kernel_rfl) rfl rfl rfl rfl rfl) (.inr rfl) rfl rfl ?_
                  refine D_pure (i := 24) [5, 6] rfl (by kernel_rfl) rfl (pr_pick_t rfl rfl rfl) (.inr rfl) rfl rfl ?_
                  refine D_pure (i := 25) [5, 6] rfl (by kernel_rfl) rfl (pr_move rfl rfl) (.inr rfl) rfl rfl ?_
                  refine T_slot 48 (.bool ((mactag xs []) == (mactag xs []))) (.bool true) rfl (congrArg _ (by simp)) ?_
                  refine T_slot 49 (.bool ((mactag xs []) == (mactag xs []))) (.bool true) rfl (congrArg _ (by simp)) ?_
                  refine T_slot 50 (.bool ((mactag xs []) == (mactag xs []))) (.bool true) rfl (congrArg _ (by simp)) ?_
                  refine D_pure (i := 26) [5, 6] rfl (by kernel_rfl) rfl (pr_move rfl rfl) (.inr rfl) rfl rfl ?_
                  refine D_pure (i := 27) [5, 6] rfl (by kernel_rfl) rfl (pr_move rfl rfl) (.inr rfl) rfl rfl ?_
                  refine D_pure (i := 30) [5, 6] rfl (by kernel_rfl) rfl (pr_move rfl rfl) (.inr rfl) rfl rfl ?_
                  refine D_pure (i := 31) [5, 6] rfl (by kernel_rfl) rfl (pr_move rfl rfl) (.inr rfl) rfl rfl ?_
                  refine D_one 28 _ rfl (by kernel_rfl) rfl (op_bslice (e := 24) (zs := [(.slice A n c)]) (qs := [(0, (.slice A n c))]) (fun _ => by kernel_rfl) rfl rfl rfl rfl (fun g75 => ?_))
                  refine D_on [6, 7] rfl ?_
                  refine D_one 29 _ rfl (by kernel_rfl) rfl (op_call0 (vs := [(.slice B nb d), (.slice (some ⟨g75, 0, none⟩) 1 1)]) (cap := []) (fun w hw => tag_f bs B nb d [(Pt.mk A n c xs)] (some ⟨g75, 0, none⟩) 1 1 w (hok_cons ((src_rd 7 rfl) w hw) (hok_cons ((src_full (z := 1) 0 rfl rfl (by first | omega | (simp; done) | (simp; omega) | (simp [*]; done) | (simp [*]; omega)) (by first | omega | (simp; done) | (simp; omega) | (simp [*]; done) | (simp [*]; omega))) w hw) (hok_cons (all_cons ((src_rd 6 rfl) w hw) (all_nil w)) (hok_nil w)))) (by first | assumption | omega | (simp; done) | (simp; omega)) (by first | omega | (simp; done) | (simp; omega) | (simp [*]; done) | (simp [*]; omega)) (by first | omega | (simp; done) | (simp; omega) | (simp [*]; done) | (simp [*]; omega)) (by first | omega | (simp; done) | (simp; omega) | (simp [*]; done) | (simp [*]; omega)) (by first | assumption | omega | (simp only [catp_cons, catp_nil, List.append_nil, List.length_append]; omega) | (simp [catp_cons, catp_nil]; done) | (simp [catp_cons, catp_nil]; omega))) (enters_of Try.func27 (by kernel_rfl) rfl) rfl rfl rfl rfl rfl (fun t76 q77 => ?_))
                  refine T_slot 54 (.agg ((mactag bs (catp [(Pt.mk A n c xs)])).map b8).toArray) (.agg ((mactag bs xs).map b8).toArray) rfl (by rw [catp_one]) ?_
                  refine D_on [6, 7] rfl ?_
                  refine D_one 32 _ rfl (by kernel_rfl) rfl (op_call0 (vs := [(.slice B nb d), (.slice A n c)]) (cap := []) (fun w hw => rtag_f bs B nb d xs A n c w (hok_cons ((src_rd 7 rfl) w hw) (hok_cons ((src_rd 6 rfl) w hw) (hok_nil w))) (by first | assumption | omega | (simp; done) | (simp; omega)) (by first | omega | (simp; done) | (simp; omega) | (simp [*]; done) | (simp [*]; omega)) (by first | assumption | omega | (simp; done) | (simp; omega)) (by first | omega | (simp; done) | (simp; omega) | (simp [*]; done) | (simp [*]; omega))) (enters_of Try.func28 (by kernel_rfl) rfl) rfl rfl rfl rfl rfl (fun t78 q79 => ?_))
                  refine D_on [6, 7] rfl ?_
                  refine D_pure (i := 33) [6, 7] rfl (by kernel_rfl) rfl (pr_eqagg (bo := .eql) (c := ((mactag bs xs) == (mactag bs xs))) (r := ((mactag bs xs) == (mactag bs xs))) (eqb8 (xs := (mactag bs xs)) (ys := (mactag bs xs)) Try.underlying26 Try.underlying5 (by kernel_rfl) (by first | omega | (simp; done) | (simp; omega) | (simp [*]; done) | (simp [*]; omega)) (by first | omega | (simp; done) | (simp; omega) | (simp [*]; done) | (simp [*]; omega))) (by kernel_rfl) rfl rfl rfl rfl rfl) (.inr rfl) rfl rfl ?_
                  refine D_pure (i := 34) [6, 7] rfl (by kernel_rfl) rfl (pr_pick_t rfl rfl rfl) (.inr rfl) rfl rfl ?_
                  refine D_pure (i := 35) [6, 7] rfl (by kernel_rfl) rfl (pr_assign rfl rfl) (.inr rfl) rfl rfl ?_
                  refine D_done (by kernel_rfl) ?_
                  exact T_meet () trivial (sc rfl sn) [6, 7] ⟨by decide, rfl⟩
            · skip
              refine id (op_bslice (e := 24) (zs := [(.slice B nb d)]) (qs := [(0, (.slice B nb d))]) (fun _ => by kernel_rfl) rfl rfl rfl rfl (fun g80 => ?_))
              refine D_on [3, 4] rfl ?_
              refine D_one 9 _ rfl (by kernel_rfl) rfl (op_bslice (e := 24) (zs := [(.slice B27 kk d), (.slice B28 (nb - kk) (d - kk))]) (qs := [(0, (.slice B27 kk d)), (1, (.slice B28 (nb - kk) (d - kk)))]) (fun _ => by kernel_rfl) rfl rfl rfl rfl (fun g81 => ?_))
              refine D_on [4, 5] rfl ?_
              refine D_one 10 _ rfl (by kernel_rfl) rfl (op_call0 (vs := [(.slice A n c), (.slice (some ⟨g81, 0, none⟩) 2 2)]) (cap := []) (fun w hw => tag_f xs A n c [(Pt.mk B27 kk d (List.take kk bs)), (Pt.mk B28 (nb - kk) (d - kk) (List.drop kk bs))] (some ⟨g81, 0, none⟩) 2 2 w (hok_cons ((src_rd 4 rfl) w hw) (hok_cons ((src_full (z := 1) 0 rfl rfl (by first | omega | (simp; done) | (simp; omega) | (simp [*]; done) | (simp [*]; omega)) (by first | omega | (simp; done) | (simp; omega) | (simp [*]; done) | (simp [*]; omega))) w hw) (hok_cons (all_cons ((src_rd 3 rfl) w hw) (all_cons ((src_rd 2 rfl) w hw) (all_nil w))) (hok_nil w)))) (by first | assumption | omega | (simp; done) | (simp; omega)) (by first | omega | (simp; done) | (simp; omega) | (simp [*]; done) | (simp [*]; omega)) (by first | omega | (simp; done) | (simp; omega) | (simp [*]; done) | (simp [*]; omega)) (by first | omega | (simp; done) | (simp; omega) | (simp [*]; done) | (simp [*]; omega)) (by first | assumption | omega | (simp only [catp_cons, catp_nil, List.append_nil, List.length_append]; omega) | (simp [catp_cons, catp_nil]; done) | (simp [catp_cons, catp_nil]; omega))) (enters_of Try.func27 (by kernel_rfl) rfl) rfl rfl rfl rfl rfl (fun t82 q83 => ?_))
              refine T_slot 35 (.agg ((mactag xs (catp [(Pt.mk B27 kk d (List.take kk bs)), (Pt.mk B28 (nb - kk) (d - kk) (List.drop kk bs))])).map b8).toArray) (.agg ((mactag xs bs).map b8).toArray) rfl (by rw [catp_two]) ?_
              refine D_on [4, 5] rfl ?_
              refine D_one 14 _ rfl (by kernel_rfl) rfl (op_call0 (vs := [(.slice A n c), (.slice (some ⟨g80, 0, none⟩) 1 1)]) (cap := []) (fun w hw => tag_f xs A n c [(Pt.mk B nb d bs)] (some ⟨g80, 0, none⟩) 1 1 w (hok_cons ((src_rd 4 rfl) w hw) (hok_cons ((src_full (z := 1) 1 rfl rfl (by first | omega | (simp; done) | (simp; omega) | (simp [*]; done) | (simp [*]; omega)) (by first | omega | (simp; done) | (simp; omega) | (simp [*]; done) | (simp [*]; omega))) w hw) (hok_cons (all_cons ((src_rd 5 rfl) w hw) (all_nil w)) (hok_nil w)))) (by first | assumption | omega | (simp; done) | (simp; omega)) (by first | omega | (simp; done) | (simp; omega) | (simp [*]; done) | (simp [*]; omega)) (by first | omega | (simp; done) | (simp; omega) | (simp [*]; done) | (simp [*]; omega)) (by first | omega | (simp; done) | (simp; omega) | (simp [*]; done) | (simp [*]; omega)) (by first | assumption | omega | (simp only [catp_cons, catp_nil, List.append_nil, List.length_append]; omega) | (simp [catp_cons, catp_nil]; done) | (simp [catp_cons, catp_nil]; omega))) (enters_of Try.func27 (by kernel_rfl) rfl) rfl rfl rfl rfl rfl (fun t84 q85 => ?_))
              refine T_slot 39 (.agg ((mactag xs (catp [(Pt.mk B nb d bs)])).map b8).toArray) (.agg ((mactag xs bs).map b8).toArray) rfl (by rw [catp_one]) ?_
              refine D_on [4, 5] rfl ?_
              refine D_pure (i := 15) [4, 5] rfl (by kernel_rfl) rfl (pr_eqagg (bo := .eql) (c := ((mactag xs bs) == (mactag xs bs))) (r := ((mactag xs bs) == (mactag xs bs))) (eqb8 (xs := (mactag xs bs)) (ys := (mactag xs bs)) Try.underlying26 Try.underlying5 (by kernel_rfl) (by first | omega | (simp; done) | (simp; omega) | (simp [*]; done) | (simp [*]; omega)) (by first | omega | (simp; done) | (simp; omega) | (simp [*]; done) | (simp [*]; omega))) (by kernel_rfl) rfl rfl rfl rfl rfl) (.inr rfl) rfl rfl ?_
              refine D_pure (i := 16) [4, 5] rfl (by kernel_rfl) rfl (pr_pick_t rfl rfl rfl) (.inr rfl) rfl rfl ?_
              refine D_pure (i := 17) [4, 5] rfl (by kernel_rfl) rfl (pr_move rfl rfl) (.inr rfl) rfl rfl ?_
              refine T_slot 40 (.bool ((mactag xs bs) == (mactag xs bs))) (.bool true) rfl (congrArg _ (by simp)) ?_
              refine T_slot 41 (.bool ((mactag xs bs) == (mactag xs bs))) (.bool true) rfl (congrArg _ (by simp)) ?_
              refine T_slot 42 (.bool ((mactag xs bs) == (mactag xs bs))) (.bool true) rfl (congrArg _ (by simp)) ?_
              refine D_pure (i := 18) [4, 5] rfl (by kernel_rfl) rfl (pr_move rfl rfl) (.inr rfl) rfl rfl ?_
              refine D_pure (i := 20) [4, 5] rfl (by kernel_rfl) rfl (pr_move rfl rfl) (.inr rfl) rfl rfl ?_
              refine D_all [19, 21] (by kernel_rfl) (by simp) ⟨⟨_, rfl, rfl, ?_⟩, ⟨_, rfl, rfl, ?_⟩, trivial⟩
              · skip
                refine id (op_call0 (vs := [(.slice A n c), (.slice none 0 0)]) (cap := []) (fun w hw => tag_f xs A n c [] none 0 0 w (hok_cons ((src_rd 4 rfl) w hw) (hok_cons ((src_nil 1) w hw) (hok_cons (all_nil w) (hok_nil w)))) (by first | assumption | omega | (simp; done) | (simp; omega)) (by first | omega | (simp; done) | (simp; omega) | (simp [*]; done) | (simp [*]; omega)) (by first | omega | (simp; done) | (simp; omega) | (simp [*]; done) | (simp [*]; omega)) (by first | omega | (simp; done) | (simp; omega) | (simp [*]; done) | (simp [*]; omega)) (by first | assumption | omega | (simp only [catp_cons, catp_nil, List.append_nil, List.length_append]; omega) | (simp [catp_cons, catp_nil]; done) | (simp [catp_cons, catp_nil]; omega))) (enters_of Try.func27 (by kernel_rfl) rfl) rfl rfl rfl rfl rfl (fun t86 q87 => ?_))
                refine T_slot 44 (.agg ((mactag xs (catp [])).map b8).toArray) (.agg ((mactag xs []).map b8).toArray) rfl (rfl) ?_
                refine D_on [4, 5] rfl ?_
                refine D_one 21 _ rfl (by kernel_rfl) rfl (op_bslice (e := 24) (zs := [(.slice none 0 0), (.slice none 0 0)]) (qs := [(0, (.slice none 0 0)), (1, (.slice none 0 0))]) (fun _ => by kernel_rfl) rfl rfl rfl rfl (fun g88 => ?_))
                refine D_on [5, 6] rfl ?_
                refine D_one 22 _ rfl (by kernel_rfl) rfl (op_call0 (vs := [(.slice A n c), (.slice (some ⟨g88, 0, none⟩) 2 2)]) (cap := []) (fun w hw => tag_f xs A n c ([(Pt.mk none 0 0 []), (Pt.mk none 0 0 [])]) (some ⟨g88, 0, none⟩) 2 2 w (hok_cons ((src_rd 5 rfl) w hw) (hok_cons ((src_full (z := 1) 0 rfl rfl (by first | omega | (simp; done) | (simp; omega) | (simp [*]; done) | (simp [*]; omega)) (by first | omega | (simp; done) | (simp; omega) | (simp [*]; done) | (simp [*]; omega))) w hw) (hok_cons (all_cons ((src_nil 1) w hw) (all_cons ((src_nil 1) w hw) (all_nil w))) (hok_nil w)))) (by first | assumption | omega | (simp; done) | (simp; omega)) (by first | omega | (simp; done) | (simp; omega) | (simp [*]; done) | (simp [*]; omega)) (by first | omega | (simp; done) | (simp; omega) | (simp [*]; done) | (simp [*]; omega)) (by first | omega | (simp; done) | (simp; omega) | (simp [*]; done) | (simp [*]; omega)) (by first | assumption | omega | (simp only [catp_cons, catp_nil, List.append_nil, List.length_append]; omega) | (simp [catp_cons, catp_nil]; done) | (simp [catp_cons, catp_nil]; omega))) (enters_of Try.func27 (by kernel_rfl) rfl) rfl rfl rfl rfl rfl (fun t89 q90 => ?_))
                refine T_slot 47 (.agg ((mactag xs (catp ([(Pt.mk none 0 0 []), (Pt.mk none 0 0 [])]))).map b8).toArray) (.agg ((mactag xs []).map b8).toArray) rfl (by simp [catp]) ?_
                refine D_on [5, 6] rfl ?_
                refine D_pure (i := 23) [5, 6] rfl (by kernel_rfl) rfl (pr_eqagg (bo := .eql) (c := ((mactag xs []) == (mactag xs []))) (r := ((mactag xs []) == (mactag xs []))) (eqb8 (xs := (mactag xs [])) (ys := (mactag xs [])) Try.underlying26 Try.underlying5 (by kernel_rfl) (by first | omega | (simp; done) | (simp; omega) | (simp [*]; done) | (simp [*]; omega)) (by first | omega | (simp; done) | (simp; omega) | (simp [*]; done) | (simp [*]; omega))) (by kernel_rfl) rfl rfl rfl rfl rfl) (.inr rfl) rfl rfl ?_
                refine D_pure (i := 24) [5, 6] rfl (by kernel_rfl) rfl (pr_pick_t rfl rfl rfl) (.inr rfl) rfl rfl ?_
                refine D_pure (i := 25) [5, 6] rfl (by kernel_rfl) rfl (pr_move rfl rfl) (.inr rfl) rfl rfl ?_
                refine T_slot 48 (.bool ((mactag xs []) == (mactag xs []))) (.bool true) rfl (congrArg _ (by simp)) ?_
                refine T_slot 49 (.bool ((mactag xs []) == (mactag xs []))) (.bool true) rfl (congrArg _ (by simp)) ?_
                refine T_slot 50 (.bool ((mactag xs []) == (mactag xs []))) (.bool true) rfl (congrArg _ (by simp)) ?_
                refine D_pure (i := 26) [5, 6] rfl (by kernel_rfl) rfl (pr_move rfl rfl) (.inr rfl) rfl rfl ?_
                refine D_pure (i := 27) [5, 6] rfl (by kernel_rfl) rfl (pr_move rfl rfl) (.inr rfl) rfl rfl ?_
                refine D_pure (i := 30) [5, 6] rfl (by kernel_rfl) rfl (pr_move rfl rfl) (.inr rfl) rfl rfl ?_
                refine D_pure (i := 31) [5, 6] rfl (by kernel_rfl) rfl (pr_move rfl rfl) (.inr rfl) rfl rfl ?_
                refine D_one 28 _ rfl (by kernel_rfl) rfl (op_bslice (e := 24) (zs := [(.slice A n c)]) (qs := [(0, (.slice A n c))]) (fun _ => by kernel_rfl) rfl rfl rfl rfl (fun g91 => ?_))
                refine D_on [6, 7] rfl ?_
                refine D_one 29 _ rfl (by kernel_rfl) rfl (op_call0 (vs := [(.slice B nb d), (.slice (some ⟨g91, 0, none⟩) 1 1)]) (cap := []) (fun w hw => tag_f bs B nb d [(Pt.mk A n c xs)] (some ⟨g91, 0, none⟩) 1 1 w (hok_cons ((src_rd 7 rfl) w hw) (hok_cons ((src_full (z := 1) 0 rfl rfl (by first | omega | (simp; done) | (simp; omega) | (simp [*]; done) | (simp [*]; omega)) (by first | omega | (simp; done) | (simp; omega) | (simp [*]; done) | (simp [*]; omega))) w hw) (hok_cons (all_cons ((src_rd 6 rfl) w hw) (all_nil w)) (hok_nil w)))) (by first | assumption | omega | (simp; done) | (simp; omega)) (by first | omega | (simp; done) | (simp; omega) | (simp [*]; done) | (simp [*]; omega)) (by first | omega | (simp; done) | (simp; omega) | (simp [*]; done) | (simp [*]; omega)) (by first | omega | (simp; done) | (simp; omega) | (simp [*]; done) | (simp [*]; omega)) (by first | assumption | omega | (simp only [catp_cons, catp_nil, List.append_nil, List.length_append]; omega) | (simp [catp_cons, catp_nil]; done) | (simp [catp_cons, catp_nil]; omega))) (enters_of Try.func27 (by kernel_rfl) rfl) rfl rfl rfl rfl rfl (fun t92 q93 => ?_))
                refine T_slot 54 (.agg ((mactag bs (catp [(Pt.mk A n c xs)])).map b8).toArray) (.agg ((mactag bs xs).map b8).toArray) rfl (by rw [catp_one]) ?_
                refine D_on [6, 7] rfl ?_
                refine D_one 32 _ rfl (by kernel_rfl) rfl (op_call0 (vs := [(.slice B nb d), (.slice A n c)]) (cap := []) (fun w hw => rtag_f bs B nb d xs A n c w (hok_cons ((src_rd 7 rfl) w hw) (hok_cons ((src_rd 6 rfl) w hw) (hok_nil w))) (by first | assumption | omega | (simp; done) | (simp; omega)) (by first | omega | (simp; done) | (simp; omega) | (simp [*]; done) | (simp [*]; omega)) (by first | assumption | omega | (simp; done) | (simp; omega)) (by first | omega | (simp; done) | (simp; omega) | (simp [*]; done) | (simp [*]; omega))) (enters_of Try.func28 (by kernel_rfl) rfl) rfl rfl rfl rfl rfl (fun t94 q95 => ?_))
                refine D_on [6, 7] rfl ?_
                refine D_pure (i := 33) [6, 7] rfl (by kernel_rfl) rfl (pr_eqagg (bo := .eql) (c := ((mactag bs xs) == (mactag bs xs))) (r := ((mactag bs xs) == (mactag bs xs))) (eqb8 (xs := (mactag bs xs)) (ys := (mactag bs xs)) Try.underlying26 Try.underlying5 (by kernel_rfl) (by first | omega | (simp; done) | (simp; omega) | (simp [*]; done) | (simp [*]; omega)) (by first | omega | (simp; done) | (simp; omega) | (simp [*]; done) | (simp [*]; omega))) (by kernel_rfl) rfl rfl rfl rfl rfl) (.inr rfl) rfl rfl ?_
                refine D_pure (i := 34) [6, 7] rfl (by kernel_rfl) rfl (pr_pick_t rfl rfl rfl) (.inr rfl) rfl rfl ?_
                refine D_pure (i := 35) [6, 7] rfl (by kernel_rfl) rfl (pr_assign rfl rfl) (.inr rfl) rfl rfl ?_
                refine D_done (by kernel_rfl) ?_
                exact T_meet () trivial (sc rfl sn) [6, 7] ⟨by decide, rfl⟩
              · skip
                refine id (op_bslice (e := 24) (zs := [(.slice none 0 0), (.slice none 0 0)]) (qs := [(0, (.slice none 0 0)), (1, (.slice none 0 0))]) (fun _ => by kernel_rfl) rfl rfl rfl rfl (fun g96 => ?_))
                refine D_on [5, 6] rfl ?_
                refine D_one 19 _ rfl (by kernel_rfl) rfl (op_call0 (vs := [(.slice A n c), (.slice none 0 0)]) (cap := []) (fun w hw => tag_f xs A n c [] none 0 0 w (hok_cons ((src_rd 5 rfl) w hw) (hok_cons ((src_nil 1) w hw) (hok_cons (all_nil w) (hok_nil w)))) (by first | assumption | omega | (simp; done) | (simp; omega)) (by first | omega | (simp; done) | (simp; omega) | (simp [*]; done) | (simp [*]; omega)) (by first | omega | (simp; done) | (simp; omega) | (simp [*]; done) | (simp [*]; omega)) (by first | omega | (simp; done) | (simp; omega) | (simp [*]; done) | (simp [*]; omega)) (by first | assumption | omega | (simp only [catp_cons, catp_nil, List.append_nil, List.length_append]; omega) | (simp [catp_cons, catp_nil]; done) | (simp [catp_cons, catp_nil]; omega))) (enters_of Try.func27 (by kernel_rfl) rfl) rfl rfl rfl rfl rfl (fun t97 q98 => ?_))
                refine T_slot 44 (.agg ((mactag xs (catp [])).map b8).toArray) (.agg ((mactag xs []).map b8).toArray) rfl (rfl) ?_
                refine D_on [5, 6] rfl ?_
                refine D_one 22 _ rfl (by kernel_rfl) rfl (op_call0 (vs := [(.slice A n c), (.slice (some ⟨g96, 0, none⟩) 2 2)]) (cap := []) (fun w hw => tag_f xs A n c ([(Pt.mk none 0 0 []), (Pt.mk none 0 0 [])]) (some ⟨g96, 0, none⟩) 2 2 w (hok_cons ((src_rd 5 rfl) w hw) (hok_cons ((src_full (z := 1) 0 rfl rfl (by first | omega | (simp; done) | (simp; omega) | (simp [*]; done) | (simp [*]; omega)) (by first | omega | (simp; done) | (simp; omega) | (simp [*]; done) | (simp [*]; omega))) w hw) (hok_cons (all_cons ((src_nil 1) w hw) (all_cons ((src_nil 1) w hw) (all_nil w))) (hok_nil w)))) (by first | assumption | omega | (simp; done) | (simp; omega)) (by first | omega | (simp; done) | (simp; omega) | (simp [*]; done) | (simp [*]; omega)) (by first | omega | (simp; done) | (simp; omega) | (simp [*]; done) | (simp [*]; omega)) (by first | omega | (simp; done) | (simp; omega) | (simp [*]; done) | (simp [*]; omega)) (by first | assumption | omega | (simp only [catp_cons, catp_nil, List.append_nil, List.length_append]; omega) | (simp [catp_cons, catp_nil]; done) | (simp [catp_cons, catp_nil]; omega))) (enters_of Try.func27 (by kernel_rfl) rfl) rfl rfl rfl rfl rfl (fun t99 q100 => ?_))
                refine T_slot 47 (.agg ((mactag xs (catp ([(Pt.mk none 0 0 []), (Pt.mk none 0 0 [])]))).map b8).toArray) (.agg ((mactag xs []).map b8).toArray) rfl (by simp [catp]) ?_
                refine D_on [5, 6] rfl ?_
                refine D_pure (i := 23) [5, 6] rfl (by kernel_rfl) rfl (pr_eqagg (bo := .eql) (c := ((mactag xs []) == (mactag xs []))) (r := ((mactag xs []) == (mactag xs []))) (eqb8 (xs := (mactag xs [])) (ys := (mactag xs [])) Try.underlying26 Try.underlying5 (by kernel_rfl) (by first | omega | (simp; done) | (simp; omega) | (simp [*]; done) | (simp [*]; omega)) (by first | omega | (simp; done) | (simp; omega) | (simp [*]; done) | (simp [*]; omega))) (by kernel_rfl) rfl rfl rfl rfl rfl) (.inr rfl) rfl rfl ?_
                refine D_pure (i := 24) [5, 6] rfl (by kernel_rfl) rfl (pr_pick_t rfl rfl rfl) (.inr rfl) rfl rfl ?_
                refine D_pure (i := 25) [5, 6] rfl (by kernel_rfl) rfl (pr_move rfl rfl) (.inr rfl) rfl rfl ?_
                refine T_slot 48 (.bool ((mactag xs []) == (mactag xs []))) (.bool true) rfl (congrArg _ (by simp)) ?_
                refine T_slot 49 (.bool ((mactag xs []) == (mactag xs []))) (.bool true) rfl (congrArg _ (by simp)) ?_
                refine T_slot 50 (.bool ((mactag xs []) == (mactag xs []))) (.bool true) rfl (congrArg _ (by simp)) ?_
                refine D_pure (i := 26) [5, 6] rfl (by kernel_rfl) rfl (pr_move rfl rfl) (.inr rfl) rfl rfl ?_
                refine D_pure (i := 27) [5, 6] rfl (by kernel_rfl) rfl (pr_move rfl rfl) (.inr rfl) rfl rfl ?_
                refine D_pure (i := 30) [5, 6] rfl (by kernel_rfl) rfl (pr_move rfl rfl) (.inr rfl) rfl rfl ?_
                refine D_pure (i := 31) [5, 6] rfl (by kernel_rfl) rfl (pr_move rfl rfl) (.inr rfl) rfl rfl ?_
                refine D_one 28 _ rfl (by kernel_rfl) rfl (op_bslice (e := 24) (zs := [(.slice A n c)]) (qs := [(0, (.slice A n c))]) (fun _ => by kernel_rfl) rfl rfl rfl rfl (fun g101 => ?_))
                refine D_on [6, 7] rfl ?_
                refine D_one 29 _ rfl (by kernel_rfl) rfl (op_call0 (vs := [(.slice B nb d), (.slice (some ⟨g101, 0, none⟩) 1 1)]) (cap := []) (fun w hw => tag_f bs B nb d [(Pt.mk A n c xs)] (some ⟨g101, 0, none⟩) 1 1 w (hok_cons ((src_rd 7 rfl) w hw) (hok_cons ((src_full (z := 1) 0 rfl rfl (by first | omega | (simp; done) | (simp; omega) | (simp [*]; done) | (simp [*]; omega)) (by first | omega | (simp; done) | (simp; omega) | (simp [*]; done) | (simp [*]; omega))) w hw) (hok_cons (all_cons ((src_rd 6 rfl) w hw) (all_nil w)) (hok_nil w)))) (by first | assumption | omega | (simp; done) | (simp; omega)) (by first | omega | (simp; done) | (simp; omega) | (simp [*]; done) | (simp [*]; omega)) (by first | omega | (simp; done) | (simp; omega) | (simp [*]; done) | (simp [*]; omega)) (by first | omega | (simp; done) | (simp; omega) | (simp [*]; done) | (simp [*]; omega)) (by first | assumption | omega | (simp only [catp_cons, catp_nil, List.append_nil, List.length_append]; omega) | (simp [catp_cons, catp_nil]; done) | (simp [catp_cons, catp_nil]; omega))) (enters_of Try.func27 (by kernel_rfl) rfl) rfl rfl rfl rfl rfl (fun t102 q103 => ?_))
                refine T_slot 54 (.agg ((mactag bs (catp [(Pt.mk A n c xs)])).map b8).toArray) (.agg ((mactag bs xs).map b8).toArray) rfl (by rw [catp_one]) ?_
                refine D_on [6, 7] rfl ?_
                refine D_one 32 _ rfl (by kernel_rfl) rfl (op_call0 (vs := [(.slice B nb d), (.slice A n c)]) (cap := []) (fun w hw => rtag_f bs B nb d xs A n c w (hok_cons ((src_rd 7 rfl) w hw) (hok_cons ((src_rd 6 rfl) w hw) (hok_nil w))) (by first | assumption | omega | (simp; done) | (simp; omega)) (by first | omega | (simp; done) | (simp; omega) | (simp [*]; done) | (simp [*]; omega)) (by first | assumption | omega | (simp; done) | (simp; omega)) (by first | omega | (simp; done) | (simp; omega) | (simp [*]; done) | (simp [*]; omega))) (enters_of Try.func28 (by kernel_rfl) rfl) rfl rfl rfl rfl rfl (fun t104 q105 => ?_))
                refine D_on [6, 7] rfl ?_
                refine D_pure (i := 33) [6, 7] rfl (by kernel_rfl) rfl (pr_eqagg (bo := .eql) (c := ((mactag bs xs) == (mactag bs xs))) (r := ((mactag bs xs) == (mactag bs xs))) (eqb8 (xs := (mactag bs xs)) (ys := (mactag bs xs)) Try.underlying26 Try.underlying5 (by kernel_rfl) (by first | omega | (simp; done) | (simp; omega) | (simp [*]; done) | (simp [*]; omega)) (by first | omega | (simp; done) | (simp; omega) | (simp [*]; done) | (simp [*]; omega))) (by kernel_rfl) rfl rfl rfl rfl rfl) (.inr rfl) rfl rfl ?_
                refine D_pure (i := 34) [6, 7] rfl (by kernel_rfl) rfl (pr_pick_t rfl rfl rfl) (.inr rfl) rfl rfl ?_
                refine D_pure (i := 35) [6, 7] rfl (by kernel_rfl) rfl (pr_assign rfl rfl) (.inr rfl) rfl rfl ?_
                refine D_done (by kernel_rfl) ?_
                exact T_meet () trivial (sc rfl sn) [6, 7] ⟨by decide, rfl⟩
          · skip
            refine id (op_bslice (e := 24) (zs := [(.slice B nb d)]) (qs := [(0, (.slice B nb d))]) (fun _ => by kernel_rfl) rfl rfl rfl rfl (fun g106 => ?_))
            refine D_on [2, 3] rfl ?_
            refine D_one 8 _ rfl (by kernel_rfl) rfl (op_slice_rd (l := kk) (u := nb) 3 rfl (by first | omega | (simp; done) | (simp; omega) | (simp [*]; done) | (simp [*]; omega)) (by first | omega | (simp; done) | (simp; omega) | (simp [*]; done) | (simp [*]; omega)) Try.underlying24 (by kernel_rfl) rfl rfl ⟨_, rfl⟩ rfl rfl rfl (fun B107 => ?_))
            refine T_as 0 _ (.rd B107 1 (nb - kk) (d - kk) ((List.drop kk bs).map b8)) rfl (by congr 1; first | rfl | (rw [List.take_of_length_le (by simp; omega)]; simp)) ?_
            refine D_on [3, 4] rfl ?_
            refine D_one 9 _ rfl (by kernel_rfl) rfl (op_bslice (e := 24) (zs := [(.slice B27 kk d), (.slice B107 (nb - kk) (d - kk))]) (qs := [(0, (.slice B27 kk d)), (1, (.slice B107 (nb - kk) (d - kk)))]) (fun _ => by kernel_rfl) rfl rfl rfl rfl (fun g108 => ?_))
            refine D_on [4, 5] rfl ?_
            refine D_one 10 _ rfl (by kernel_rfl) rfl (op_call0 (vs := [(.slice A n c), (.slice (some ⟨g108, 0, none⟩) 2 2)]) (cap := []) (fun w hw => tag_f xs A n c [(Pt.mk B27 kk d (List.take kk bs)), (Pt.mk B107 (nb - kk) (d - kk) (List.drop kk bs))] (some ⟨g108, 0, none⟩) 2 2 w (hok_cons ((src_rd 4 rfl) w hw) (hok_cons ((src_full (z := 1) 0 rfl rfl (by first | omega | (simp; done) | (simp; omega) | (simp [*]; done) | (simp [*]; omega)) (by first | omega | (simp; done) | (simp; omega) | (simp [*]; done) | (simp [*]; omega))) w hw) (hok_cons (all_cons ((src_rd 3 rfl) w hw) (all_cons ((src_rd 1 rfl) w hw) (all_nil w))) (hok_nil w)))) (by first | assumption | omega | (simp; done) | (simp; omega)) (by first | omega | (simp; done) | (simp; omega) | (simp [*]; done) | (simp [*]; omega)) (by first | omega | (simp; done) | (simp; omega) | (simp [*]; done) | (simp [*]; omega)) (by first | omega | (simp; done) | (simp; omega) | (simp [*]; done) | (simp [*]; omega)) (by first | assumption | omega | (simp only [catp_cons, catp_nil, List.append_nil, List.length_append]; omega) | (simp [catp_cons, catp_nil]; done) | (simp [catp_cons, catp_nil]; omega))) (enters_of Try.func27 (by kernel_rfl) rfl) rfl rfl rfl rfl rfl (fun t109 q110 => ?_))
            refine T_slot 35 (.agg ((mactag xs (catp [(Pt.mk B27 kk d (List.take kk bs)), (Pt.mk B107 (nb - kk) (d - kk) (List.drop kk bs))])).map b8).toArray) (.agg ((mactag xs bs).map b8).toArray) rfl (by rw [catp_two]) ?_
            refine D_on [4, 5] rfl ?_
            refine D_one 14 _ rfl (by kernel_rfl) rfl (op_call0 (vs := [(.slice A n c), (.slice (some ⟨g106, 0, none⟩) 1 1)]) (cap := []) (fun w hw => tag_f xs A n c [(Pt.mk B nb d bs)] (some ⟨g106, 0, none⟩) 1 1 w (hok_cons ((src_rd 4 rfl) w hw) (hok_cons ((src_full (z := 1) 2 rfl rfl (by first | omega | (simp; done) | (simp; omega) | (simp [*]; done) | (simp [*]; omega)) (by first | omega | (simp; done) | (simp; omega) | (simp [*]; done) | (simp [*]; omega))) w hw) (hok_cons (all_cons ((src_rd 5 rfl) w hw) (all_nil w)) (hok_nil w)))) (by first | assumption | omega | (simp; done) | (simp; omega)) (by first | omega | (simp; done) | (simp; omega) | (simp [*]; done) | (simp [*]; omega)) (by first | omega | (simp; done) | (simp; omega) | (simp [*]; done) | (simp [*]; omega)) (by first | omega | (simp; done) | (simp; omega) | (simp [*]; done) | (simp [*]; omega)) (by first | assumption | omega | (simp only [catp_cons, catp_nil, List.append_nil, List.length_append]; omega) | (simp [catp_cons, catp_nil]; done) | (simp [catp_cons, catp_nil]; omega))) (enters_of Try.func27 (by kernel_rfl) rfl) rfl rfl rfl rfl rfl (fun t111 q112 => ?_))
            refine T_slot 39 (.agg ((mactag xs (catp [(Pt.mk B nb d bs)])).map b8).toArray) (.agg ((mactag xs bs).map b8).toArray) rfl (by rw [catp_one]) ?_
            refine D_on [4, 5] rfl ?_
            refine D_pure (i := 15) [4, 5] rfl (by kernel_rfl) rfl (pr_eqagg (bo := .eql) (c := ((mactag xs bs) == (mactag xs bs))) (r := ((mactag xs bs) == (mactag xs bs))) (eqb8 (xs := (mactag xs bs)) (ys := (mactag xs bs)) Try.underlying26 Try.underlying5 (by kernel_rfl) (by first | omega | (simp; done) | (simp; omega) | (simp [*]; done) | (simp [*]; omega)) (by first | omega | (simp; done) | (simp; omega) | (simp [*]; done) | (simp [*]; omega))) (by kernel_rfl) rfl rfl rfl rfl rfl) (.inr rfl) rfl rfl ?_
            refine D_pure (i := 16) [4, 5] rfl (by kernel_rfl) rfl (pr_pick_t rfl rfl rfl) (.inr rfl) rfl rfl ?_
            refine D_pure (i := 17) [4, 5] rfl (by kernel_rfl) rfl (pr_move rfl rfl) (.inr rfl) rfl rfl ?_
            refine T_slot 40 (.bool ((mactag xs bs) == (mactag xs bs))) (.bool true) rfl (congrArg _ (by simp)) ?_
            refine T_slot 41 (.bool ((mactag xs bs) == (mactag xs bs))) (.bool true) rfl (congrArg _ (by simp)) ?_
            refine T_slot 42 (.bool ((mactag xs bs) == (mactag xs bs))) (.bool true) rfl (congrArg _ (by simp)) ?_
            refine D_pure (i := 18) [4, 5] rfl (by kernel_rfl) rfl (pr_move rfl rfl) (.inr rfl) rfl rfl ?_
            refine D_pure (i := 20) [4, 5] rfl (by kernel_rfl) rfl (pr_move rfl rfl) (.inr rfl) rfl rfl ?_
            refine D_all [19, 21] (by kernel_rfl) (by simp) ⟨⟨_, rfl, rfl, ?_⟩, ⟨_, rfl, rfl, ?_⟩, trivial⟩
            · skip
              refine id (op_call0 (vs := [(.slice A n c), (.slice none 0 0)]) (cap := []) (fun w hw => tag_f xs A n c [] none 0 0 w (hok_cons ((src_rd 4 rfl) w hw) (hok_cons ((src_nil 1) w hw) (hok_cons (all_nil w) (hok_nil w)))) (by first | assumption | omega | (simp; done) | (simp; omega)) (by first | omega | (simp; done) | (simp; omega) | (simp [*]; done) | (simp [*]; omega)) (by first | omega | (simp; done) | (simp; omega) | (simp [*]; done) | (simp [*]; omega)) (by first | omega | (simp; done) | (simp; omega) | (simp [*]; done) | (simp [*]; omega)) (by first | assumption | omega | (simp only [catp_cons, catp_nil, List.append_nil, List.length_append]; omega) | (simp [catp_cons, catp_nil]; done) | (simp [catp_cons, catp_nil]; omega))) (enters_of Try.func27 (by kernel_rfl) rfl) rfl rfl rfl rfl rfl (fun t113 q114 => ?_))
              refine T_slot 44 (.agg ((mactag xs (catp [])).map b8).toArray) (.agg ((mactag xs []).map b8).toArray) rfl (rfl) ?_
              refine D_on [4, 5] rfl ?_
              refine D_one 21 _ rfl (by kernel_rfl) rfl (op_bslice (e := 24) (zs := [(.slice none 0 0), (.slice none 0 0)]) (qs := [(0, (.slice none 0 0)), (1, (.slice none 0 0))]) (fun _ => by kernel_rfl) rfl rfl rfl rfl (fun g115 => ?_))
              refine D_on [5, 6] rfl ?_
              refine D_one 22 _ rfl (by kernel_rfl) rfl (op_call0 (vs := [(.slice A n c), (.slice (some ⟨g115, 0, none⟩) 2 2)]) (cap := []) (fun w hw => tag_f xs A n c ([(Pt.mk none 0 0 []), (Pt.mk none 0 0 [])]) (some ⟨g115, 0, none⟩) 2 2 w (hok_cons ((src_rd 5 rfl) w hw) (hok_cons ((src_full (z := 1) 0 rfl rfl (by first | omega | (simp; done) | (simp; omega) | (simp [*]; done) | (simp [*]; omega)) (by first | omega | (simp; done) | (simp; omega) | (simp [*]; done) | (simp [*]; omega))) w hw) (hok_cons (all_cons ((src_nil 1) w hw) (all_cons ((src_nil 1) w hw) (all_nil w))) (hok_nil w)))) (by first | assumption | omega | (simp; done) | (simp; omega)) (by first | omega | (simp; done) | (simp; omega) | (simp [*]; done) | (simp [*]; omega)) (by first | omega | (simp; done) | (simp; omega) | (simp [*]; done) | (simp [*]; omega)) (by first | omega | (simp; done) | (simp; omega) | (simp [*]; done) | (simp [*]; omega)) (by first | assumption | omega | (simp only [catp_cons, catp_nil, List.append_nil, List.length_append]; omega) | (simp [catp_cons, catp_nil]; done) | (simp [catp_cons, catp_nil]; omega))) (enters_of Try.func27 (by kernel_rfl) rfl) rfl rfl rfl rfl rfl (fun t116 q117 => ?_))
              refine T_slot 47 (.agg ((mactag xs (catp ([(Pt.mk none 0 0 []), (Pt.mk none 0 0 [])]))).map b8).toArray) (.agg ((mactag xs []).map b8).toArray) rfl (by simp [catp]) ?_
              refine D_on [5, 6] rfl ?_
              refine D_pure (i := 23) [5, 6] rfl (by kernel_rfl) rfl (pr_eqagg (bo := .eql) (c := ((mactag xs []) == (mactag xs []))) (r := ((mactag xs []) == (mactag xs []))) (eqb8 (xs := (mactag xs [])) (ys := (mactag xs [])) Try.underlying26 Try.underlying5 (by kernel_rfl) (by first | omega | (simp; done) | (simp; omega) | (simp [*]; done) | (simp [*]; omega)) (by first | omega | (simp; done) | (simp; omega) | (simp [*]; done) | (simp [*]; omega))) (by kernel_rfl) rfl rfl rfl rfl rfl) (.inr rfl) rfl rfl ?_
              refine D_pure (i := 24) [5, 6] rfl (by kernel_rfl) rfl (pr_pick_t rfl rfl rfl) (.inr rfl) rfl rfl ?_
              refine D_pure (i := 25) [5, 6] rfl (by kernel_rfl) rfl (pr_move rfl rfl) (.inr rfl) rfl rfl ?_
              refine T_slot 48 (.bool ((mactag xs []) == (mactag xs []))) (.bool true) rfl (congrArg _ (by simp)) ?_
              refine T_slot 49 (.bool ((mactag xs []) == (mactag xs []))) (.bool true) rfl (congrArg _ (by simp)) ?_
              refine T_slot 50 (.bool ((mactag xs []) == (mactag xs []))) (.bool true) rfl (congrArg _ (by simp)) ?_
              refine D_pure (i := 26) [5, 6] rfl (by kernel_rfl) rfl (pr_move rfl rfl) (.inr rfl) rfl rfl ?_
              refine D_pure (i := 27) [5, 6] rfl (by kernel_rfl) rfl (pr_move rfl rfl) (.inr rfl) rfl rfl ?_
              refine D_pure (i := 30) [5, 6] rfl (by kernel_rfl) rfl (pr_move rfl rfl) (.inr rfl) rfl rfl ?_
              refine D_pure (i := 31) [5, 6] rfl (by kernel_rfl) rfl (pr_move rfl rfl) (.inr rfl) rfl rfl ?_
              refine D_one 28 _ rfl (by kernel_rfl) rfl (op_bslice (e := 24) (zs := [(.slice A n c)]) (qs := [(0, (.slice A n c))]) (fun _ => by kernel_rfl) rfl rfl rfl rfl (fun g118 => ?_))
              refine D_on [6, 7] rfl ?_
              refine D_one 29 _ rfl (by kernel_rfl) rfl (op_call0 (vs := [(.slice B nb d), (.slice (some ⟨g118, 0, none⟩) 1 1)]) (cap := []) (fun w hw => tag_f bs B nb d [(Pt.mk A n c xs)] (some ⟨g118, 0, none⟩) 1 1 w (hok_cons ((src_rd 7 rfl) w hw) (hok_cons ((src_full (z := 1) 0 rfl rfl (by first | omega | (simp; done) | (simp; omega) | (simp [*]; done) | (simp [*]; omega)) (by first | omega | (simp; done) | (simp; omega) | (simp [*]; done) | (simp [*]; omega))) w hw) (hok_cons (all_cons ((src_rd 6 rfl) w hw) (all_nil w)) (hok_nil w)))) (by first | assumption | omega | (simp; done) | (simp; omega)) (by first | omega | (simp; done) | (simp; omega) | (simp [*]; done) | (simp [*]; omega)) (by first | omega | (simp; done) | (simp; omega) | (simp [*]; done) | (simp [*]; omega)) (by first | omega | (simp; done) | (simp; omega) | (simp [*]; done) | (simp [*]; omega)) (by first | assumption | omega | (simp only [catp_cons, catp_nil, List.append_nil, List.length_append]; omega) | (simp [catp_cons, catp_nil]; done) | (simp [catp_cons, catp_nil]; omega))) (enters_of Try.func27 (by kernel_rfl) rfl) rfl rfl rfl rfl rfl (fun t119 q120 => ?_))
              refine T_slot 54 (.agg ((mactag bs (catp [(Pt.mk A n c xs)])).map b8).toArray) (.agg ((mactag bs xs).map b8).toArray) rfl (by rw [catp_one]) ?_
              refine D_on [6, 7] rfl ?_
              refine D_one 32 _ rfl (by kernel_rfl) rfl (op_call0 (vs := [(.slice B nb d), (.slice A n c)]) (cap := []) (fun w hw => rtag_f bs B nb d xs A n c w (hok_cons ((src_rd 7 rfl) w hw) (hok_cons ((src_rd 6 rfl) w hw) (hok_nil w))) (by first | assumption | omega | (simp; done) | (simp; omega)) (by first | omega | (simp; done) | (simp; omega) | (simp [*]; done) | (simp [*]; omega)) (by first | assumption | omega | (simp; done) | (simp; omega)) (by first | omega | (simp; done) | (simp; omega) | (simp [*]; done) | (simp [*]; omega))) (enters_of Try.func28 (by kernel_rfl) rfl) rfl rfl rfl rfl rfl (fun t121 q122 => ?_))
              refine D_on [6, 7] rfl ?_
              refine D_pure (i := 33) [6, 7] rfl (by kernel_rfl) rfl (pr_eqagg (bo := .eql) (c := ((mactag bs xs) == (mactag bs xs))) (r := ((mactag bs xs) == (mactag bs xs))) (eqb8 (xs := (mactag bs xs)) (ys := (mactag bs xs)) Try.underlying26 Try.underlying5 (by kernel_rfl) (by first | omega | (simp; done) | (simp; omega) | (simp [*]; done) | (simp [*]; omega)) (by first | omega | (simp; done) | (simp; omega) | (simp [*]; done) | (simp [*]; omega))) (by kernel_rfl) rfl rfl rfl rfl rfl) (.inr rfl) rfl rfl ?_
              refine D_pure (i := 34) [6, 7] rfl (by kernel_rfl) rfl (pr_pick_t rfl rfl rfl) (.inr rfl) rfl rfl ?_
              refine D_pure (i := 35) [6, 7] rfl (by kernel_rfl) rfl (pr_assign rfl rfl) (.inr rfl) rfl rfl ?_
              refine D_done (by kernel_rfl) ?_
              exact T_meet () trivial (sc rfl sn) [6, 7] ⟨by decide, rfl⟩
            · skip
              refine id (op_bslice (e := 24) (zs := [(.slice none 0 0), (.slice none 0 0)]) (qs := [(0, (.slice none 0 0)), (1, (.slice none 0 0))]) (fun _ => by kernel_rfl) rfl rfl rfl rfl (fun g123 => ?_))
              refine D_on [5, 6] rfl ?_
              refine D_one 19 _ rfl (by kernel_rfl) rfl (op_call0 (vs := [(.slice A n c), (.slice none 0 0)]) (cap := []) (fun w hw => tag_f xs A n c [] none 0 0 w (hok_cons ((src_rd 5 rfl) w hw) (hok_cons ((src_nil 1) w hw) (hok_cons (all_nil w) (hok_nil w)))) (by first | assumption | omega | (simp; done) | (simp; omega)) (by first | omega | (simp; done) | (simp; omega) | (simp [*]; done) | (simp [*]; omega)) (by first | omega | (simp; done) | (simp; omega) | (simp [*]; done) | (simp [*]; omega)) (by first | omega | (simp; done) | (simp; omega) | (simp [*]; done) | (simp [*]; omega)) (by first | assumption | omega | (simp only [catp_cons, catp_nil, List.append_nil, List.length_append]; omega) | (simp [catp_cons, catp_nil]; done) | (simp [catp_cons, catp_nil]; omega))) (enters_of Try.func27 (by kernel_rfl) rfl) rfl rfl rfl rfl rfl (fun t124 q125 => ?_))
              refine T_slot 44 (.agg ((mactag xs (catp [])).map b8).toArray) (.agg ((mactag xs []).map b8).toArray) rfl (rfl) ?_
              refine D_on [5, 6] rfl ?_
              refine D_one 22 _ rfl (by kernel_rfl) rfl (op_call0 (vs := [(.slice A n c), (.slice (some ⟨g123, 0, none⟩) 2 2)]) (cap := []) (fun w hw => tag_f xs A n c ([(Pt.mk none 0 0 []), (Pt.mk none 0 0 [])]) (some ⟨g123, 0, none⟩) 2 2 w (hok_cons ((src_rd 5 rfl) w hw) (hok_cons ((src_full (z := 1) 0 rfl rfl (by first | omega | (simp; done) | (simp; omega) | (simp [*]; done) | (simp [*]; omega)) (by first | omega | (simp; done) | (simp; omega) | (simp [*]; done) | (simp [*]; omega))) w hw) (hok_cons (all_cons ((src_nil 1) w hw) (all_cons ((src_nil 1) w hw) (all_nil w))) (hok_nil w)))) (by first | assumption | omega | (simp; done) | (simp; omega)) (by first | omega | (simp; done) | (simp; omega) | (simp [*]; done) | (simp [*]; omega)) (by first | omega | (simp; done) | (simp; omega) | (simp [*]; done) | (simp [*]; omega)) (by first | omega | (simp; done) | (simp; omega) | (simp [*]; done) | (simp [*]; omega)) (by first | assumption | omega | (simp only [catp_cons, catp_nil, List.append_nil, List.length_append]; omega) | (simp [catp_cons, catp_nil]; done) | (simp [catp_cons, catp_nil]; omega))) (enters_of Try.func27 (by kernel_rfl) rfl) rfl rfl rfl rfl rfl (fun t126 q127 => ?_))
              refine T_slot 47 (.agg ((mactag xs (catp ([(Pt.mk none 0 0 []), (Pt.mk none 0 0 [])]))).map b8).toArray) (.agg ((mactag xs []).map b8).toArray) rfl (by simp [catp]) ?_
              refine D_on [5, 6] rfl ?_
              refine D_pure (i := 23) [5, 6] rfl (by kernel_rfl) rfl (pr_eqagg (bo := .eql) (c := ((mactag xs []) == (mactag xs []))) (r := ((mactag xs []) == (mactag xs []))) (eqb8 (xs := (mactag xs [])) (ys := (mactag xs [])) Try.underlying26 Try.underlying5 (by kernel_rfl) (by first | omega | (simp; done) | (simp; omega) | (simp [*]; done) | (simp [*]; omega)) (by first | omega | (simp; done) | (simp; omega) | (simp [*]; done) | (simp [*]; omega))) (by kernel_rfl) rfl rfl rfl rfl rfl) (.inr rfl) rfl rfl ?_
              refine D_pure (i := 24) [5, 6] rfl (by kernel_rfl) rfl (pr_pick_t rfl rfl rfl) (.inr rfl) rfl rfl ?_
              refine D_pure (i := 25) [5, 6] rfl (by kernel_rfl) rfl (pr_move rfl rfl) (.inr rfl) rfl rfl ?_
              refine T_slot 48 (.bool ((mactag xs []) == (mactag xs []))) (.bool true) rfl (congrArg _ (by simp)) ?_
              refine T_slot 49 (.bool ((mactag xs []) == (mactag xs []))) (.bool true) rfl (congrArg _ (by simp)) ?_
              refine T_slot 50 (.bool ((mactag xs []) == (mactag xs []))) (.bool true) rfl (congrArg _ (by simp)) ?_
              refine D_pure (i := 26) [5, 6] rfl (by kernel_rfl) rfl (pr_move rfl rfl) (.inr rfl) rfl rfl ?_
              refine D_pure (i := 27) [5, 6] rfl (by kernel_rfl) rfl (pr_move rfl rfl) (.inr rfl) rfl rfl ?_
              refine D_pure (i := 30) [5, 6] rfl (by kernel_rfl) rfl (pr_move rfl rfl) (.inr rfl) rfl rfl ?_
              refine D_pure (i := 31) [5, 6] rfl (by kernel_rfl) rfl (pr_move rfl rfl) (.inr rfl) rfl rfl ?_
              refine D_one 28 _ rfl (by kernel_rfl) rfl (op_bslice (e := 24) (zs := [(.slice A n c)]) (qs := [(0, (.slice A n c))]) (fun _ => by kernel_rfl) rfl rfl rfl rfl (fun g128 => ?_))
              refine D_on [6, 7] rfl ?_
              refine D_one 29 _ rfl (by kernel_rfl) rfl (op_call0 (vs := [(.slice B nb d), (.slice (some ⟨g128, 0, none⟩) 1 1)]) (cap := []) (fun w hw => tag_f bs B nb d [(Pt.mk A n c xs)] (some ⟨g128, 0, none⟩) 1 1 w (hok_cons ((src_rd 7 rfl) w hw) (hok_cons ((src_full (z := 1) 0 rfl rfl (by first | omega | (simp; done) | (simp; omega) | (simp [*]; done) | (simp [*]; omega)) (by first | omega | (simp; done) | (simp; omega) | (simp [*]; done) | (simp [*]; omega))) w hw) (hok_cons (all_cons ((src_rd 6 rfl) w hw) (all_nil w)) (hok_nil w)))) (by first | assumption | omega | (simp; done) | (simp; omega)) (by first | omega | (simp; done) | (simp; omega) | (simp [*]; done) | (simp [*]; omega)) (by first | omega | (simp; done) | (simp; omega) | (simp [*]; done) | (simp [*]; omega)) (by first | omega | (simp; done) | (simp; omega) | (simp [*]; done) | (simp [*]; omega)) (by first | assumption | omega | (simp only [catp_cons, catp_nil, List.append_nil, List.length_append]; omega) | (simp [catp_cons, catp_nil]; done) | (simp [catp_cons, catp_nil]; omega))) (enters_of Try.func27 (by kernel_rfl) rfl) rfl rfl rfl rfl rfl (fun t129 q130 => ?_))
              refine T_slot 54 (.agg ((mactag bs (catp [(Pt.mk A n c xs)])).map b8).toArray) (.agg ((mactag bs xs).map b8).toArray) rfl (by rw [catp_one]) ?_
              refine D_on [6, 7] rfl ?_
              refine D_one 32 _ rfl (by kernel_rfl) rfl (op_call0 (vs := [(.slice B nb d), (.slice A n c)]) (cap := []) (fun w hw => rtag_f bs B nb d xs A n c w (hok_cons ((src_rd 7 rfl) w hw) (hok_cons ((src_rd 6 rfl) w hw) (hok_nil w))) (by first | assumption | omega | (simp; done) | (simp; omega)) (by first | omega | (simp; done) | (simp; omega) | (simp [*]; done) | (simp [*]; omega)) (by first | assumption | omega | (simp; done) | (simp; omega)) (by first | omega | (simp; done) | (simp; omega) | (simp [*]; done) | (simp [*]; omega))) (enters_of Try.func28 (by kernel_rfl) rfl) rfl rfl rfl rfl rfl (fun t131 q132 => ?_))
              refine D_on [6, 7] rfl ?_
              refine D_pure (i := 33) [6, 7] rfl (by kernel_rfl) rfl (pr_eqagg (bo := .eql) (c := ((mactag bs xs) == (mactag bs xs))) (r := ((mactag bs xs) == (mactag bs xs))) (eqb8 (xs := (mactag bs xs)) (ys := (mactag bs xs)) Try.underlying26 Try.underlying5 (by kernel_rfl) (by first | omega | (simp; done) | (simp; omega) | (simp [*]; done) | (simp [*]; omega)) (by first | omega | (simp; done) | (simp; omega) | (simp [*]; done) | (simp [*]; omega))) (by kernel_rfl) rfl rfl rfl rfl rfl) (.inr rfl) rfl rfl ?_
              refine D_pure (i := 34) [6, 7] rfl (by kernel_rfl) rfl (pr_pick_t rfl rfl rfl) (.inr rfl) rfl rfl ?_
              refine D_pure (i := 35) [6, 7] rfl (by kernel_rfl) rfl (pr_assign rfl rfl) (.inr rfl) rfl rfl ?_
              refine D_done (by kernel_rfl) ?_
              exact T_meet () trivial (sc rfl sn) [6, 7] ⟨by decide, rfl⟩
        · skip
          refine id (op_slice_rd (l := kk) (u := nb) 1 rfl (by first | omega | (simp; done) | (simp; omega) | (simp [*]; done) | (simp [*]; omega)) (by first | omega | (simp; done) | (simp; omega) | (simp [*]; done) | (simp [*]; omega)) Try.underlying24 (by kernel_rfl) rfl rfl ⟨_, rfl⟩ rfl rfl rfl (fun B133 => ?_))
          refine T_as 0 _ (.rd B133 1 (nb - kk) (d - kk) ((List.drop kk bs).map b8)) rfl (by congr 1; first | rfl | (rw [List.take_of_length_le (by simp; omega)]; simp)) ?_
          refine D_on [1, 2] rfl ?_
          refine D_all [5, 13] (by kernel_rfl) (by simp) ⟨⟨_, rfl, rfl, ?_⟩, ⟨_, rfl, rfl, ?_⟩, trivial⟩
          · skip
            refine id (op_slice_rd (l := 0) (u := kk) 2 rfl (by first | omega | (simp; done) | (simp; omega) | (simp [*]; done) | (simp [*]; omega)) (by first | omega | (simp; done) | (simp; omega) | (simp [*]; done) | (simp [*]; omega)) Try.underlying24 (by kernel_rfl) rfl rfl rfl ⟨_, rfl⟩ rfl rfl (fun B134 => ?_))
            refine T_as 0 _ (.rd B134 1 kk d ((List.take kk bs).map b8)) rfl (by congr 1; simp [List.map_take, List.map_drop] <;> omega) ?_
            refine T_slot 30 _ (.slice B134 kk d) rfl (by congr 1) ?_
            refine D_on [2, 3] rfl ?_
            refine D_all [9, 13] (by kernel_rfl) (by simp) ⟨⟨_, rfl, rfl, ?_⟩, ⟨_, rfl, rfl, ?_⟩, trivial⟩
            · skip
              refine id (op_bslice (e := 24) (zs := [(.slice B134 kk d), (.slice B133 (nb - kk) (d - kk))]) (qs := [(0, (.slice B134 kk d)), (1, (.slice B133 (nb - kk) (d - kk)))]) (fun _ => by kernel_rfl) rfl rfl rfl rfl (fun g135 => ?_))
              refine D_on [3, 4] rfl ?_
              refine D_all [10, 13] (by kernel_rfl) (by simp) ⟨⟨_, rfl, rfl, ?_⟩, ⟨_, rfl, rfl, ?_⟩, trivial⟩
              · skip
                refine id (op_call0 (vs := [(.slice A n c), (.slice (some ⟨g135, 0, none⟩) 2 2)]) (cap := []) (fun w hw => tag_f xs A n c [(Pt.mk B134 kk d (List.take kk bs)), (Pt.mk B133 (nb - kk) (d - kk) (List.drop kk bs))] (some ⟨g135, 0, none⟩) 2 2 w (hok_cons ((src_rd 3 rfl) w hw) (hok_cons ((src_full (z := 1) 0 rfl rfl (by first | omega | (simp; done) | (simp; omega) | (simp [*]; done) | (simp [*]; omega)) (by first | omega | (simp; done) | (simp; omega) | (simp [*]; done) | (simp [*]; omega))) w hw) (hok_cons (all_cons ((src_rd 1 rfl) w hw) (all_cons ((src_rd 2 rfl) w hw) (all_nil w))) (hok_nil w)))) (by first | assumption | omega | (simp; done) | (simp; omega)) (by first | omega | (simp; done) | (simp; omega) | (simp [*]; done) | (simp [*]; omega)) (by first | omega | (simp; done) | (simp; omega) | (simp [*]; done) | (simp [*]; omega)) (by first | omega | (simp; done) | (simp; omega) | (simp [*]; done) | (simp [*]; omega)) (by first | assumption | omega | (simp only [catp_cons, catp_nil, List.append_nil, List.length_append]; omega) | (simp [catp_cons, catp_nil]; done) | (simp [catp_cons, catp_nil]; omega))) (enters_of Try.func27 (by kernel_rfl) rfl) rfl rfl rfl rfl rfl (fun t136 q137 => ?_))
                refine T_slot 35 (.agg ((mactag xs (catp [(Pt.mk B134 kk d (List.take kk bs)), (Pt.mk B133 (nb - kk) (d - kk) (List.drop kk bs))])).map b8).toArray) (.agg ((mactag xs bs).map b8).toArray) rfl (by rw [catp_two]) ?_
                refine D_on [3, 4] rfl ?_
                refine D_one 13 _ rfl (by kernel_rfl) rfl (op_bslice (e := 24) (zs := [(.slice B nb d)]) (qs := [(0, (.slice B nb d))]) (fun _ => by kernel_rfl) rfl rfl rfl rfl (fun g138 => ?_))
                refine D_on [4, 5] rfl ?_
                refine D_one 14 _ rfl (by kernel_rfl) rfl (op_call0 (vs := [(.slice A n c), (.slice (some ⟨g138, 0, none⟩) 1 1)]) (cap := []) (fun w hw => tag_f xs A n c [(Pt.mk B nb d bs)] (some ⟨g138, 0, none⟩) 1 1 w (hok_cons ((src_rd 4 rfl) w hw) (hok_cons ((src_full (z := 1) 0 rfl rfl (by first | omega | (simp; done) | (simp; omega) | (simp [*]; done) | (simp [*]; omega)) (by first | omega | (simp; done) | (simp; omega) | (simp [*]; done) | (simp [*]; omega))) w hw) (hok_cons (all_cons ((src_rd 5 rfl) w hw) (all_nil w)) (hok_nil w)))) (by first | assumption | omega | (simp; done) | (simp; omega)) (by first | omega | (simp; done) | (simp; omega) | (simp [*]; done) | (simp [*]; omega)) (by first | omega | (simp; done) | (simp; omega) | (simp [*]; done) | (simp [*]; omega)) (by first | omega | (simp; done) | (simp; omega) | (simp [*]; done) | (simp [*]; omega)) (by first | assumption | omega | (simp only [catp_cons, catp_nil, List.append_nil, List.length_append]; omega) | (simp [catp_cons, catp_nil]; done) | (simp [catp_cons, catp_nil]; omega))) (enters_of Try.func27 (by kernel_rfl) rfl) rfl rfl rfl rfl rfl (fun t139 q140 => ?_))
                refine T_slot 39 (.agg ((mactag xs (catp [(Pt.mk B nb d bs)])).map b8).toArray) (.agg ((mactag xs bs).map b8).toArray) rfl (by rw [catp_one]) ?_
                refine D_on [4, 5] rfl ?_
                refine D_pure (i := 15) [4, 5] rfl (by kernel_rfl) rfl (pr_eqagg (bo := .eql) (c := ((mactag xs bs) == (mactag xs bs))) (r := ((mactag xs bs) == (mactag xs bs))) (eqb8 (xs := (mactag xs bs)) (ys := (mactag xs bs)) Try.underlying26 Try.underlying5 (by kernel_rfl) (by first | omega | (simp; done) | (simp; omega) | (simp [*]; done) | (simp [*]; omega)) (by first | omega | (simp; done) | (simp; omega) | (simp [*]; done) | (simp [*]; omega))) (by kernel_rfl) rfl rfl rfl rfl rfl) (.inr rfl) rfl rfl ?_
                refine D_pure (i := 16) [4, 5] rfl (by kernel_rfl) rfl (pr_pick_t rfl rfl rfl) (.inr rfl) rfl rfl ?_
                refine D_pure (i := 17) [4, 5] rfl (by kernel_rfl) rfl (pr_move rfl rfl) (.inr rfl) rfl rfl ?_
                refine T_slot 40 (.bool ((mactag xs bs) == (mactag xs bs))) (.bool true) rfl (congrArg _ (by simp)) ?_
                refine T_slot 41 (.bool ((mactag xs bs) == (mactag xs bs))) (.bool true) rfl (congrArg _ (by simp)) ?_
                refine T_slot 42 (.bool ((mactag xs bs) == (mactag xs bs))) (.bool true) rfl (congrArg _ (by simp)) ?_
                refine D_pure (i := 18) [4, 5] rfl (by kernel_rfl) rfl (pr_move rfl rfl) (.inr rfl) rfl rfl ?_
                refine D_pure (i := 20) [4, 5] rfl (by kernel_rfl) rfl (pr_move rfl rfl) (.inr rfl) rfl rfl ?_
                refine D_all [19, 21] (by kernel_rfl) (by simp) ⟨⟨_, rfl, rfl, ?_⟩, ⟨_, rfl, rfl, ?_⟩, trivial⟩
                · skip
                  refine id (op_call0 (vs := [(.slice A n c), (.slice none 0 0)]) (cap := []) (fun w hw => tag_f xs A n c [] none 0 0 w (hok_cons ((src_rd 4 rfl) w hw) (hok_cons ((src_nil 1) w hw) (hok_cons (all_nil w) (hok_nil w)))) (by first | assumption | omega | (simp; done) | (simp; omega)) (by first | omega | (simp; done) | (simp; omega) | (simp [*]; done) | (simp [*]; omega)) (by first | omega | (simp; done) | (simp; omega) | (simp [*]; done) | (simp [*]; omega)) (by first | omega | (simp; done) | (simp; omega) | (simp [*]; done) | (simp [*]; omega)) (by first | assumption | omega | (simp only [catp_cons, catp_nil, List.append_nil, List.length_append]; omega) | (simp [catp_cons, catp_nil]; done) | (simp [catp_cons, catp_nil]; omega))) (enters_of Try.func27 (by kernel_rfl) rfl) rfl rfl rfl rfl rfl (fun t141 q142 => ?_))
                  refine T_slot 44 (.agg ((mactag xs (catp [])).map b8).toArray) (.agg ((mactag xs []).map b8).toArray) rfl (rfl) ?_
                  refine D_on [4, 5] rfl ?_
                  refine D_one 21 _ rfl (by kernel_rfl) rfl (op_bslice (e := 24) (zs := [(.slice none 0 0), (.slice none 0 0)]) (qs := [(0, (.slice none 0 0)), (1, (.slice none 0 0))]) (fun _ => by kernel_rfl) rfl rfl rfl rfl (fun g143 => ?_))
                  refine D_on [5, 6] rfl ?_
                  refine D_one 22 _ rfl (by kernel_rfl) rfl (op_call0 (vs := [(.slice A n c), (.slice (some ⟨g143, 0, none⟩) 2 2)]) (cap := []) (fun w hw => tag_f xs A n c ([(Pt.mk none 0 0 []), (Pt.mk none 0 0 [])]) (some ⟨g143, 0, none⟩) 2 2 w (hok_cons ((src_rd 5 rfl) w hw) (hok_cons ((src_full (z := 1) 0 rfl rfl (by first | omega | (simp; done) | (simp; omega) | (simp [*]; done) | (simp [*]; omega)) (by first | omega | (simp; done) | (simp; omega) | (simp [*]; done) | (simp [*]; omega))) w hw) (hok_cons (all_cons ((src_nil 1) w hw) (all_cons ((src_nil 1) w hw) (all_nil w))) (hok_nil w)))) (by first | assumption | omega | (simp; done) | (simp; omega)) (by first | omega | (simp; done) | (simp; omega) | (simp [*]; done) | (simp [*]; omega)) (by first | omega | (simp; done) | (simp; omega) | (simp [*]; done) | (simp [*]; omega)) (by first | omega | (simp; done) | (simp; omega) | (simp [*]; done) | (simp [*]; omega)) (by first | assumption | omega | (simp only [catp_cons, catp_nil, List.append_nil, List.length_append]; omega) | (simp [catp_cons, catp_nil]; done) | (simp [catp_cons, catp_nil]; omega))) (enters_of Try.func27 (by kernel_rfl) rfl) rfl rfl rfl rfl rfl (fun t144 q145 => ?_))
                  refine T_slot 47 (.agg ((mactag xs (catp ([(Pt.mk none 0 0 []), (Pt.mk none 0 0 [])]))).map b8).toArray) (.agg ((mactag xs []).map b8).toArray) rfl (by simp [catp]) ?_
                  refine D_on [5, 6] rfl ?_
                  refine D_pure (i := 23) [5, 6] rfl (by kernel_rfl) rfl (pr_eqagg (bo := .eql) (c := ((mactag xs []) == (mactag xs []))) (r := ((mactag xs []) == (mactag xs []))) (eqb8 (xs := (mactag xs [])) (ys := (mactag xs [])) Try.underlying26 Try.underlying5 (by kernel_rfl) (by first | omega | (simp; done) | (simp; omega) | (simp [*]; done) | (simp [*]; omega)) (by first | omega | (simp; done) | (simp; omega) | (simp [*]; done) | (simp [*]; omega))) (by kernel_rfl) rfl rfl rfl rfl rfl) (.inr rfl) rfl rfl ?_
                  refine D_pure (i := 24) [5, 6] rfl (by kernel_rfl) rfl (pr_pick_t rfl rfl rfl) (.inr rfl) rfl rfl ?_
                  refine D_pure (i := 25) [5, 6] rfl (by kernel_rfl) rfl (pr_move rfl rfl) (.inr rfl) rfl rfl ?_
                  refine T_slot 48 (.bool ((mactag xs []) == (mactag xs []))) (.bool true) rfl (congrArg _ (by simp)) ?_
                  refine T_slot 49 (.bool ((mactag xs []) == (mactag xs []))) (.bool true) rfl (congrArg _ (by simp)) ?_
                  refine T_slot 50 (.bool ((mactag xs []) == (mactag xs []))) (.bool true) rfl (congrArg _ (by simp)) ?_
                  refine D_pure (i := 26) [5, 6] rfl (by kernel_rfl) rfl (pr_move rfl rfl) (.inr rfl) rfl rfl ?_
                  refine D_pure (i := 27) [5, 6] rfl (by kernel_rfl) rfl (pr_move rfl rfl) (.inr rfl) rfl rfl ?_
                  refine D_pure (i := 30) [5, 6] rfl (by kernel_rfl) rfl (pr_move rfl rfl) (.inr rfl) rfl rfl ?_
                  refine D_pure (i := 31) [5, 6] rfl (by kernel_rfl) rfl (pr_move rfl rfl) (.inr rfl) rfl rfl ?_
                  refine D_one 28 _ rfl (by kernel_rfl) rfl (op_bslice (e := 24) (zs := [(.slice A n c)]) (qs := [(0, (.slice A n c))]) (fun _ => by kernel_rfl) rfl rfl rfl rfl (fun g146 => ?_))
                  refine D_on [6, 7] rfl ?_
                  refine D_one 29 _ rfl (by kernel_rfl) rfl (op_call0 (vs := [(.slice B nb d), (.slice (some ⟨g146, 0, none⟩) 1 1)]) (cap := []) (fun w hw => tag_f bs B nb d [(Pt.mk A n c xs)] (some ⟨g146, 0, none⟩) 1 1 w (hok_cons ((src_rd 7 rfl) w hw) (hok_cons ((src_full (z := 1) 0 rfl rfl (by first | omega | (simp; done) | (simp; omega) | (simp [*]; done) | (simp [*]; omega)) (by first | omega | (simp; done) | (simp; omega) | (simp [*]; done) | (simp [*]; omega))) w hw) (hok_cons (all_cons ((src_rd 6 rfl) w hw) (all_nil w)) (hok_nil w)))) (by first | assumption | omega | (simp; done) | (simp; omega)) (by first | omega | (simp; done) | (simp; omega) | (simp [*]; done) | (simp [*]; omega)) (by first | omega | (simp; done) | (simp; omega) | (simp [*]; done) | (simp [*]; omega)) (by first | omega | (simp; done) | (simp; omega) | (simp [*]; done) | (simp [*]; omega)) (by first | assumption | omega | (simp only [catp_cons, catp_nil, List.append_nil, List.length_append]; omega) | (simp [catp_cons, catp_nil]; done) | (simp [catp_cons, catp_nil]; omega))) (enters_of Try.func27 (by kernel_rfl) rfl) rfl rfl rfl rfl rfl (fun t147 q148 => ?_))
                  refine T_slot 54 (.agg ((mactag bs (catp [(Pt.mk A n c xs)])).map b8).toArray) (.agg ((mactag bs xs).map b8).toArray) rfl (by rw [catp_one]) ?_
                  refine D_on [6, 7] rfl ?_
                  refine D_one 32 _ rfl (by kernel_rfl) rfl (op_call0 (vs := [(.slice B nb d), (.slice A n c)]) (cap := []) (fun w hw => rtag_f bs B nb d xs A n c w (hok_cons ((src_rd 7 rfl) w hw) (hok_cons ((src_rd 6 rfl) w hw) (hok_nil w))) (by first | assumption | omega | (simp; done) | (simp; omega)) (by first | omega | (simp; done) | (simp; omega) | (simp [*]; done) | (simp [*]; omega)) (by first | assumption | omega | (simp; done) | (simp; omega)) (by first | omega | (simp; done) | (simp; omega) | (simp [*]; done) | (simp [*]; omega))) (enters_of Try.func28 (by kernel_rfl) rfl) rfl rfl rfl rfl rfl (fun t149 q150 => ?_))
                  refine D_on [6, 7] rfl ?_
                  refine D_pure (i := 33) [6, 7] rfl (by kernel_rfl) rfl (pr_eqagg (bo := .eql) (c := ((mactag bs xs) == (mactag bs xs))) (r := ((mactag bs xs) == (mactag bs xs))) (eqb8 (xs := (mactag bs xs)) (ys := (mactag bs xs)) Try.underlying26 Try.underlying5 (by kernel_rfl) (by first | omega | (simp; done) | (simp; omega) | (simp [*]; done) | (simp [*]; omega)) (by first | omega | (simp; done) | (simp; omega) | (simp [*]; done) | (simp [*]; omega))) (by kernel_rfl) rfl rfl rfl rfl rfl) (.inr rfl) rfl rfl ?_
                  refine D_pure (i := 34) [6, 7] rfl (by kernel_rfl) rfl (pr_pick_t rfl rfl rfl) (.inr rfl) rfl rfl ?_
                  refine D_pure (i := 35) [6, 7] rfl (by kernel_rfl) rfl (pr_assign rfl rfl) (.inr rfl) rfl rfl ?_
                  refine D_done (by kernel_rfl) ?_
                  exact T_meet () trivial (sc rfl sn) [6, 7] ⟨by decide, rfl⟩
                · skip
                  refine id (op_bslice (e := 24) (zs := [(.slice none 0 0), (.slice none 0 0)]) (qs := [(0, (.slice none 0 0)), (1, (.slice none 0 0))]) (fun _ => by kernel_rfl) rfl rfl rfl rfl (fun g151 => ?_))
                  refine D_on [5, 6] rfl ?_
                  refine D_one 19 _ rfl (by kernel_rfl) rfl (op_call0 (vs := [(.slice A n c), (.slice none 0 0)]) (cap := []) (fun w hw => tag_f xs A n c [] none 0 0 w (hok_cons ((src_rd 5 rfl) w hw) (hok_cons ((src_nil 1) w hw) (hok_cons (all_nil w) (hok_nil w)))) (by first | assumption | omega | (simp; done) | (simp; omega)) (by first | omega | (simp; done) | (simp; omega) | (simp [*]; done) | (simp [*]; omega)) (by first | omega | (simp; done) | (simp; omega) | (simp [*]; done) | (simp [*]; omega)) (by first | omega | (simp; done) | (simp; omega) | (simp [*]; done) | (simp [*]; omega)) (by first | assumption | omega | (simp only [catp_cons, catp_nil, List.append_nil, List.length_append]; omega) | (simp [catp_cons, catp_nil]; done) | (simp [catp_cons, catp_nil]; omega))) (enters_of Try.func27 (by kernel_rfl) rfl) rfl rfl rfl rfl rfl (fun t152 q153 => ?_))
                  refine T_slot 44 (.agg ((mactag xs (catp [])).map b8).toArray) (.agg ((mactag xs []).map b8).toArray) rfl (rfl) ?_
                  refine D_on [5, 6] rfl ?_
                  refine D_one 22 _ rfl (by kernel_rfl) rfl (op_call0 (vs := [(.slice A n c), (.slice (some ⟨g151, 0, none⟩) 2 2)]) (cap := []) (fun w hw => tag_f xs A n c ([(Pt.mk none 0 0 []), (Pt.mk none 0 0 [])]) (some ⟨g151, 0, none⟩) 2 2 w (hok_cons ((src_rd 5 rfl) w hw) (hok_cons ((src_full (z := 1) 0 rfl rfl (by first | omega | (simp; done) | (simp; omega) | (simp [*]; done) | (simp [*]; omega)) (by first | omega | (simp; done) | (simp; omega) | (simp [*]; done) | (simp [*]; omega))) w hw) (hok_cons (all_cons ((src_nil 1) w hw) (all_cons ((src_nil 1) w hw) (all_nil w))) (hok_nil w)))) (by first | assumption | omega | (simp; done) | (simp; omega)) (by first | omega | (simp; done) | (simp; omega) | (simp [*]; done) | (simp [*]; omega)) (by first | omega | (simp; done) | (simp; omega) | (simp [*]; done) | (simp [*]; omega)) (by first | omega | (simp; done) | (simp; omega) | (simp [*]; done) | (simp [*]; omega)) (by first | assumption | omega | (simp only [catp_cons, catp_nil, List.append_nil, List.length_append]; omega) | (simp [catp_cons, catp_nil]; done) | (simp [catp_cons, catp_nil]; omega))) (enters_of Try.func27 (by kernel_rfl) rfl) rfl rfl rfl rfl rfl (fun t154 q155 => ?_))
                  refine T_slot 47 (.agg ((mactag xs (catp ([(Pt.mk none 0 0 []), (Pt.mk none 0 0 [])]))).map b8).toArray) (.agg ((mactag xs []).map b8).toArray) rfl (by simp [catp]) ?_
                  refine D_on [5, 6] rfl ?_
                  refine D_pure (i := 23) [5, 6] rfl (by kernel_rfl) rfl (pr_eqagg (bo := .eql) (c := ((mactag xs []) == (mactag xs []))) (r := ((mactag xs []) == (mactag xs []))) (eqb8 (xs := (mactag xs [])) (ys := (mactag xs [])) Try.underlying26 Try.underlying5 (by kernel_rfl) (by first | omega | (simp; done) | (simp; omega) | (simp [*]; done) | (simp [*]; omega)) (by first | omega | (simp; done) | (simp; omega) | (simp [*]; done) | (simp [*]; omega))) (by kernel_rfl) rfl rfl rfl rfl rfl) (.inr rfl) rfl rfl ?_
                  refine D_pure (i := 24) [5, 6] rfl (by kernel_rfl) rfl (pr_pick_t rfl rfl rfl) (.inr rfl) rfl rfl ?_
                  refine D_pure (i := 25) [5, 6] rfl (by kernel_rfl) rfl (pr_move rfl rfl) (.inr rfl) rfl rfl ?_
                  refine T_slot 48 (.bool ((mactag xs []) == (mactag xs []))) (.bool true) rfl (congrArg _ (by simp)) ?_
                  refine T_slot 49 (.bool ((mactag xs []) == (mactag xs []))) (.bool true) rfl (congrArg _ (by simp)) ?_
                  refine T_slot 50 (.bool ((mactag xs []) == (mactag xs []))) (.bool true) rfl (congrArg _ (by simp)) ?_
                  refine D_pure (i := 26) [5, 6] rfl (by kernel_rfl) rfl (pr_move rfl rfl) (.inr rfl) rfl rfl ?_
                  refine D_pure (i := 27) [5, 6] rfl (by kernel_rfl) rfl (pr_move rfl rfl) (.inr rfl) rfl rfl ?_
                  refine D_pure (i := 30) [5, 6] rfl (by kernel_rfl) rfl (pr_move rfl rfl) (.inr rfl) rfl rfl ?_
                  refine D_pure (i := 31) [5, 6] rfl (by kernel_rfl) rfl (pr_move rfl rfl) (.inr rfl) rfl rfl ?_
                  refine D_one 28 _ rfl (by kernel_rfl) rfl (op_bslice (e := 24) (zs := [(.slice A n c)]) (qs := [(0, (.slice A n c))]) (fun _ => by kernel_rfl) rfl rfl rfl rfl (fun g156 => ?_))
                  refine D_on [6, 7] rfl ?_
                  refine D_one 29 _ rfl (by kernel_rfl) rfl (op_call0 (vs := [(.slice B nb d), (.slice (some ⟨g156, 0, none⟩) 1 1)]) (cap := []) (fun w hw => tag_f bs B nb d [(Pt.mk A n c xs)] (some ⟨g156, 0, none⟩) 1 1 w (hok_cons ((src_rd 7 rfl) w hw) (hok_cons ((src_full (z := 1) 0 rfl rfl (by first | omega | (simp; done) | (simp; omega) | (simp [*]; done) | (simp [*]; omega)) (by first | omega | (simp; done) | (simp; omega) | (simp [*]; done) | (simp [*]; omega))) w hw) (hok_cons (all_cons ((src_rd 6 rfl) w hw) (all_nil w)) (hok_nil w)))) (by first | assumption | omega | (simp; done) | (simp; omega)) (by first | omega | (simp; done) | (simp; omega) | (simp [*]; done) | (simp [*]; omega)) (by first | omega | (simp; done) | (simp; omega) | (simp [*]; done) | (simp [*]; omega)) (by first | omega | (simp; done) | (simp; omega) | (simp [*]; done) | (simp [*]; omega)) (by first | assumption | omega | (simp only [catp_cons, catp_nil, List.append_nil, List.length_append]; omega) | (simp [catp_cons, catp_nil]; done) | (simp [catp_cons, catp_nil]; omega))) (enters_of Try.func27 (by kernel_rfl) rfl) rfl rfl rfl rfl rfl (fun t157 q158 => ?_))
                  refine T_slot 54 (.agg ((mactag bs (catp [(Pt.mk A n c xs)])).map b8).toArray) (.agg ((mactag bs xs).map b8).toArray) rfl (by rw [catp_one]) ?_
                  refine D_on [6, 7] rfl ?_
                  refine D_one 32 _ rfl (by kernel_rfl) rfl (op_call0 (vs := [(.slice B nb d), (.slice A n c)]) (cap := []) (fun w hw => rtag_f bs B nb d xs A n c w (hok_cons ((src_rd 7 rfl) w hw) (hok_cons ((src_rd 6 rfl) w hw) (hok_nil w))) (by first | assumption | omega | (simp; done) | (simp; omega)) (by first | omega | (simp; done) | (simp; omega) | (simp [*]; done) | (simp [*]; omega)) (by first | assumption | omega | (simp; done) | (simp; omega)) (by first | omega | (simp; done) | (simp; omega) | (simp [*]; done) | (simp [*]; omega))) (enters_of Try.func28 (by kernel_rfl) rfl) rfl rfl rfl rfl rfl (fun t159 q160 => ?_))
                  refine D_on [6, 7] rfl ?_
                  refine D_pure (i := 33) [6, 7] rfl (by kernel_rfl) rfl (pr_eqagg (bo := .eql) (c := ((mactag bs xs) == (mactag bs xs))) (r := ((mactag bs xs) == (mactag bs xs))) (eqb8 (xs := (mactag bs xs)) (ys := (mactag bs xs)) Try.underlying26 Try.underlying5 (by kernel_rfl) (by first | omega | (simp; done) | (simp; omega) | (simp [*]; done) | (simp [*]; omega)) (by first | omega | (simp; done) | (simp; omega) | (simp [*]; done) | (simp [*]; omega))) (by kernel_rfl) rfl rfl rfl rfl rfl) (.inr rfl) rfl rfl ?_
                  refine D_pure (i := 34) [6, 7] rfl (by kernel_rfl) rfl (pr_pick_t rfl rfl rfl) (.inr rfl) rfl rfl ?_
                  refine D_pure (i := 35) [6, 7] rfl (by kernel_rfl) rfl (pr_assign rfl rfl) (.inr rfl) rfl rfl ?_
                  refine D_done (by kernel_rfl) ?_
                  exact T_meet () trivial (sc rfl sn) [6, 7] ⟨by decide, rfl⟩
              · skip
                refine id (op_bslice (e := 24) (zs := [(.slice B nb d)]) (qs := [(0, (.slice B nb d))]) (fun _ => by kernel_rfl) rfl rfl rfl rfl (fun g161 => ?_))
                refine D_on [4, 5] rfl ?_
                refine D_one 10 _ rfl (by kernel_rfl) rfl (op_call0 (vs := [(.slice A n c), (.slice (some ⟨g135, 0, none⟩) 2 2)]) (cap := []) (fun w hw => tag_f xs A n c [(Pt.mk B134 kk d (List.take kk bs)), (Pt.mk B133 (nb - kk) (d - kk) (List.drop kk bs))] (some ⟨g135, 0, none⟩) 2 2 w (hok_cons ((src_rd 4 rfl) w hw) (hok_cons ((src_full (z := 1) 1 rfl rfl (by first | omega | (simp; done) | (simp; omega) | (simp [*]; done) | (simp [*]; omega)) (by first | omega | (simp; done) | (simp; omega) | (simp [*]; done) | (simp [*]; omega))) w hw) (hok_cons (all_cons ((src_rd 2 rfl) w hw) (all_cons ((src_rd 3 rfl) w hw) (all_nil w))) (hok_nil w)))) (by first | assumption | omega | (simp; done) | (simp; omega)) (by first | omega | (simp; done) | (simp; omega) | (simp [*]; done) | (simp [*]; omega)) (by first | omega | (simp; done) | (simp; omega) | (simp [*]; done) | (simp [*]; omega)) (by first | omega | (simp; done) | (simp; omega) | (simp [*]; done) | (simp [*]; omega)) (by first | assumption | omega | (simp only [catp_cons, catp_nil, List.append_nil, List.length_append]; omega) | (simp [catp_cons, catp_nil]; done) | (simp [catp_cons, catp_nil]; omega))) (enters_of Try.func27 (by kernel_rfl) rfl) rfl rfl rfl rfl rfl (fun t162 q163 => ?_))
                refine T_slot 35 (.agg ((mactag xs (catp [(Pt.mk B134 kk d (List.take kk bs)), (Pt.mk B133 (nb - kk) (d - kk) (List.drop kk bs))])).map b8).toArray) (.agg ((mactag xs bs).map b8).toArray) rfl (by rw [catp_two]) ?_
                refine D_on [4, 5] rfl ?_
                refine D_one 14 _ rfl (by kernel_rfl) rfl (op_call0 (vs := [(.slice A n c), (.slice (some ⟨g161, 0, none⟩) 1 1)]) (cap := []) (fun w hw => tag_f xs A n c [(Pt.mk B nb d bs)] (some ⟨g161, 0, none⟩) 1 1 w (hok_cons ((src_rd 4 rfl) w hw) (hok_cons ((src_full (z := 1) 0 rfl rfl (by first | omega | (simp; done) | (simp; omega) | (simp [*]; done) | (simp [*]; omega)) (by first | omega | (simp; done) | (simp; omega) | (simp [*]; done) | (simp [*]; omega))) w hw) (hok_cons (all_cons ((src_rd 5 rfl) w hw) (all_nil w)) (hok_nil w)))) (by first | assumption | omega | (simp; done) | (simp; omega)) (by first | omega | (simp; done) | (simp; omega) | (simp [*]; done) | (simp [*]; omega)) (by first | omega | (simp; done) | (simp; omega) | (simp [*]; done) | (simp [*]; omega)) (by first | omega | (simp; done) | (simp; omega) | (simp [*]; done) | (simp [*]; omega)) (by first | assumption | omega | (simp only [catp_cons, catp_nil, List.append_nil, List.length_append]; omega) | (simp [catp_cons, catp_nil]; done) | (simp [catp_cons, catp_nil]; omega))) (enters_of Try.func27 (by kernel_rfl) rfl) rfl rfl rfl rfl rfl (fun t164 q165 => ?_))
                refine T_slot 39 (.agg ((mactag xs (catp [(Pt.mk B nb d bs)])).map b8).toArray) (.agg ((mactag xs bs).map b8).toArray) rfl (by rw [catp_one]) ?_
                refine D_on [4, 5] rfl ?_
                refine D_pure (i := 15) [4, 5] rfl (by kernel_rfl) rfl (pr_eqagg (bo := .eql) (c := ((mactag xs bs) == (mactag xs bs))) (r := ((mactag xs bs) == (mactag xs bs))) (eqb8 (xs := (mactag xs bs)) (ys := (mactag xs bs)) Try.underlying26 Try.underlying5 (by kernel_rfl) (by first | omega | (simp; done) | (simp; omega) | (simp [*]; done) | (simp [*]; omega)) (by first | omega | (simp; done) | (simp; omega) | (simp [*]; done) | (simp [*]; omega))) (by kernel_rfl) rfl rfl rfl rfl rfl) (.inr rfl) rfl rfl ?_
                refine D_pure (i := 16) [4, 5] rfl (by kernel_rfl) rfl (pr_pick_t rfl rfl rfl) (.inr rfl) rfl rfl ?_
                refine D_pure (i := 17) [4, 5] rfl (by kernel_rfl) rfl (pr_move rfl rfl) (.inr rfl) rfl rfl ?_
                refine T_slot 40 (.bool ((mactag xs bs) == (mactag xs bs))) (.bool true) rfl (congrArg _ (by simp)) ?_
                refine T_slot 41 (.bool ((mactag xs bs) == (mactag xs bs))) (.bool true) rfl (congrArg _ (by simp)) ?_
                refine T_slot 42 (.bool ((mactag xs bs) == (mactag xs bs))) (.bool true) rfl (congrArg _ (by simp)) ?_
                refine D_pure (i := 18) [4, 5] rfl (by kernel_rfl) rfl (pr_move rfl rfl) (.inr rfl) rfl rfl ?_
                refine D_pure (i := 20) [4, 5] rfl (by kernel_rfl) rfl (pr_move rfl rfl) (.inr rfl) rfl rfl ?_
                refine D_all [19, 21] (by kernel_rfl) (by simp) ⟨⟨_, rfl, rfl, ?_⟩, ⟨_, rfl, rfl, ?_⟩, trivial⟩
                · skip
                  refine id (op_call0 (vs := [(.slice A n c), (.slice none 0 0)]) (cap := []) (fun w hw => tag_f xs A n c [] none 0 0 w (hok_cons ((src_rd 4 rfl) w hw) (hok_cons ((src_nil 1) w hw) (hok_cons (all_nil w) (hok_nil w)))) (by first | assumption | omega | (simp; done) | (simp; omega)) (by first | omega | (simp; done) | (simp; omega) | (simp [*]; done) | (simp [*]; omega)) (by first | omega | (simp; done) | (simp; omega) | (simp [*]; done) | (simp [*]; omega)) (by first | omega | (simp; done) | (simp; omega) | (simp [*]; done) | (simp [*]; omega)) (by first | assumption | omega | (simp only [catp_cons, catp_nil, List.append_nil, List.length_append]; omega) | (simp [catp_cons, catp_nil]; done) | (simp [catp_cons, catp_nil]; omega))) (enters_of Try.func27 (by kernel_rfl) rfl) rfl rfl rfl rfl rfl (fun t166 q167 => ?_))
                  refine T_slot 44 (.agg ((mactag xs (catp [])).map b8).toArray) (.agg ((mactag xs []).map b8).toArray) rfl (rfl) ?_
                  refine D_on [4, 5] rfl ?_
                  refine D_one 21 _ rfl (by kernel_rfl) rfl (op_bslice (e := 24) (zs := [(.slice none 0 0), (.slice none 0 0)]) (qs := [(0, (.slice none 0 0)), (1, (.slice none 0 0))]) (fun _ => by kernel_rfl) rfl rfl rfl rfl (fun g168 => ?_))
                  refine D_on [5, 6] rfl ?_
                  refine D_one 22 _ rfl (by kernel_rfl) rfl (op_call0 (vs := [(.slice A n c), (.slice (some ⟨g168, 0, none⟩) 2 2)]) (cap := []) (fun w hw => tag_f xs A n c ([(Pt.mk none 0 0 []), (Pt.mk none 0 0 [])]) (some ⟨g168, 0, none⟩) 2 2 w (hok_cons ((src_rd 5 rfl) w hw) (hok_cons ((src_full (z := 1) 0 rfl rfl (by first | omega | (simp; done) | (simp; omega) | (simp [*]; done) | (simp [*]; omega)) (by first | omega | (simp; done) | (simp; omega) | (simp [*]; done) | (simp [*]; omega))) w hw) (hok_cons (all_cons ((src_nil 1) w hw) (all_cons ((src_nil 1) w hw) (all_nil w))) (hok_nil w)))) (by first | assumption | omega | (simp; done) | (simp; omega)) (by first | omega | (simp; done) | (simp; omega) | (simp [*]; done) | (simp [*]; omega)) (by first | omega | (simp; done) | (simp; omega) | (simp [*]; done) | (simp [*]; omega)) (by first | omega | (simp; done) | (simp; omega) | (simp [*]; done) | (simp [*]; omega)) (by first | assumption | omega | (simp only [catp_cons, catp_nil, List.append_nil, List.length_append]; omega) | (simp [catp_cons, catp_nil]; done) | (simp [catp_cons, catp_nil]; omega))) (enters_of Try.func27 (by kernel_rfl) rfl) rfl rfl rfl rfl rfl (fun t169 q170 => ?_))
                  refine T_slot 47 (.agg ((mactag xs (catp ([(Pt.mk none 0 0 []), (Pt.mk none 0 0 [])]))).map b8).toArray) (.agg ((mactag xs []).map b8).toArray) rfl (by simp [catp]) ?_
                  refine D_on [5, 6] rfl ?_
                  refine D_pure (i := 23) [5, 6] rfl (by kernel_rfl) rfl (pr_eqagg (bo := .eql) (c := ((mactag xs []) == (mactag xs []))) (r := ((mactag xs []) == (mactag xs []))) (eqb8 (xs := (mactag xs [])) (ys := (mactag xs [])) Try.underlying26 Try.underlying5 (by kernel_rfl) (by first | omega | (simp; done) | (simp; omega) | (simp [*]; done) | (simp [*]; omega)) (by first | omega | (simp; done) | (simp; omega) | (simp [*]; done) | (simp [*]; omega))) (by kernel_rfl) rfl rfl rfl rfl rfl) (.inr rfl) rfl rfl ?_
                  refine D_pure (i := 24) [5, 6] rfl (by kernel_rfl) rfl (pr_pick_t rfl rfl rfl) (.inr rfl) rfl rfl ?_
                  refine D_pure (i := 25) [5, 6] rfl (by kernel_rfl) rfl (pr_move rfl rfl) (.inr rfl) rfl rfl ?_
                  refine T_slot 48 (.bool ((mactag xs []) == (mactag xs []))) (.bool true) rfl (congrArg _ (by simp)) ?_
                  refine T_slot 49 (.bool ((mactag xs []) == (mactag xs []))) (.bool true) rfl (congrArg _ (by simp)) ?_
                  refine T_slot 50 (.bool ((mactag xs []) == (mactag xs []))) (.bool true) rfl (congrArg _ (by simp)) ?_
                  refine D_pure (i := 26) [5, 6] rfl (by kernel_rfl) rfl (pr_move rfl rfl) (.inr rfl) rfl rfl ?_
                  refine D_pure (i := 27) [5, 6] rfl (by kernel_rfl) rfl (pr_move rfl rfl) (.inr rfl) rfl rfl ?_
                  refine D_pure (i := 30) [5, 6] rfl (by kernel_rfl) rfl (pr_move rfl rfl) (.inr rfl) rfl rfl ?_
                  refine D_pure (i := 31) [5, 6] rfl (by kernel_rfl) rfl (pr_move rfl rfl) (.inr rfl) rfl rfl ?_
                  refine D_one 28 _ rfl (by kernel_rfl) rfl (op_bslice (e := 24) (zs := [(.slice A n c)]) (qs := [(0, (.slice A n c))]) (fun _ => by kernel_rfl) rfl rfl rfl rfl (fun g171 => ?_))
                  refine D_on [6, 7] rfl ?_
                  refine D_one 29 _ rfl (by kernel_rfl) rfl (op_call0 (vs := [(.slice B nb d), (.slice (some ⟨g171, 0, none⟩) 1 1)]) (cap := []) (fun w hw => tag_f bs B nb d [(Pt.mk A n c xs)] (some ⟨g171, 0, none⟩) 1 1 w (hok_cons ((src_rd 7 rfl) w hw) (hok_cons ((src_full (z := 1) 0 rfl rfl (by first | omega | (simp; done) | (simp; omega) | (simp [*]; done) | (simp [*]; omega)) (by first | omega | (simp; done) | (simp; omega) | (simp [*]; done) | (simp [*]; omega))) w hw) (hok_cons (all_cons ((src_rd 6 rfl) w hw) (all_nil w)) (hok_nil w)))) (by first | assumption | omega | (simp; done) | (simp; omega)) (by first | omega | (simp; done) | (simp; omega) | (simp [*]; done) | (simp [*]; omega)) (by first | omega | (simp; done) | (simp; omega) | (simp [*]; done) | (simp [*]; omega)) (by first | omega | (simp; done) | (simp; omega) | (simp [*]; done) | (simp [*]; omega)) (by first | assumption | omega | (simp only [catp_cons, catp_nil, List.append_nil, List.length_append]; omega) | (simp [catp_cons, catp_nil]; done) | (simp [catp_cons, catp_nil]; omega))) (enters_of Try.func27 (by kernel_rfl) rfl) rfl rfl rfl rfl rfl (fun t172 q173 => ?_))
                  refine T_slot 54 (.agg ((mactag bs (catp [(Pt.mk A n c xs)])).map b8).toArray) (.agg ((mactag bs xs).map b8).toArray) rfl (by rw [catp_one]) ?_
                  refine D_on [6, 7] rfl ?_
                  refine D_one 32 _ rfl (by kernel_rfl) rfl (op_call0 (vs := [(.slice B nb d), (.slice A n c)]) (cap := []) (fun w hw => rtag_f bs B nb d xs A n c w (hok_cons ((src_rd 7 rfl) w hw) (hok_cons ((src_rd 6 rfl) w hw) (hok_nil w))) (by first | assumption | omega | (simp; done) | (simp; omega)) (by first | omega | (simp; done) | (simp; omega) | (simp [*]; done) | (simp [*]; omega)) (by first | assumption | omega | (simp; done) | (simp; omega)) (by first | omega | (simp; done) | (simp; omega) | (simp [*]; done) | (simp [*]; omega))) (enters_of Try.func28 (by kernel_rfl) rfl) rfl rfl rfl rfl rfl (fun t174 q175 => ?_))
                  refine D_on [6, 7] rfl ?_
                  refine D_pure (i := 33) [6, 7] rfl (by kernel_rfl) rfl (pr_eqagg (bo := .eql) (c := ((mactag bs xs) == (mactag bs xs))) (r := ((mactag bs xs) == (mactag bs xs))) (eqb8 (xs := (mactag bs xs)) (ys := (mactag bs xs)) Try.underlying26 Try.underlying5 (by kernel_rfl) (by first | omega | (simp; done) | (simp; omega) | (simp [*]; done) | (simp [*]; omega)) (by first | omega | (simp; done) | (simp; omega) | (simp [*]; done) | (simp [*]; omega))) (by kernel_rfl) rfl rfl rfl rfl rfl) (.inr rfl) rfl rfl ?_
                  refine D_pure (i := 34) [6, 7] rfl (by kernel_rfl) rfl (pr_pick_t rfl rfl rfl) (.inr rfl) rfl rfl ?_
                  refine D_pure (i := 35) [6, 7] rfl (by kernel_rfl) rfl (pr_assign rfl rfl) (.inr rfl) rfl rfl ?_
                  refine D_done (by kernel_rfl) ?_
                  exact T_meet () trivial (sc rfl sn) [6, 7] ⟨by decide, rfl⟩
                · skip
                  refine id (op_bslice (e := 24) (zs := [(.slice none 0 0), (.slice none 0 0)]) (qs := [(0, (.slice none 0 0)), (1, (.slice none 0 0))]) (fun _ => by kernel_rfl) rfl rfl rfl rfl (fun g176 => ?_))
                  refine D_on [5, 6] rfl ?_
                  refine D_one 19 _ rfl (by kernel_rfl) rfl (op_call0 (vs := [(.slice A n c), (.slice none 0 0)]) (cap := []) (fun w hw => tag_f xs A n c [] none 0 0 w (hok_cons ((src_rd 5 rfl) w hw) (hok_cons ((src_nil 1) w hw) (hok_cons (all_nil w) (hok_nil w)))) (by first | assumption | omega | (simp; done) | (simp; omega)) (by first | omega | (simp; done) | (simp; omega) | (simp [*]; done) | (simp [*]; omega)) (by first | omega | (simp; done) | (simp; omega) | (simp [*]; done) | (simp [*]; omega)) (by first | omega | (simp; done) | (simp; omega) | (simp [*]; done) | (simp [*]; omega)) (by first | assumption | omega | (simp only [catp_cons, catp_nil, List.append_nil, List.length_append]; omega) | (simp [catp_cons, catp_nil]; done) | (simp [catp_cons, catp_nil]; omega))) (enters_of Try.func27 (by kernel_rfl) rfl) rfl rfl rfl rfl rfl (fun t177 q178 => ?_))
                  refine T_slot 44 (.agg ((mactag xs (catp [])).map b8).toArray) (.agg ((mactag xs []).map b8).toArray) rfl (rfl) ?_
                  refine D_on [5, 6] rfl ?_
                  refine D_one 22 _ rfl (by kernel_rfl) rfl (op_call0 (vs := [(.slice A n c), (.slice (some ⟨g176, 0, none⟩) 2 2)]) (cap := []) (fun w hw => tag_f xs A n c ([(Pt.mk none 0 0 []), (Pt.mk none 0 0 [])]) (some ⟨g176, 0, none⟩) 2 2 w (hok_cons ((src_rd 5 rfl) w hw) (hok_cons ((src_full (z := 1) 0 rfl rfl (by first | omega | (simp; done) | (simp; omega) | (simp [*]; done) | (simp [*]; omega)) (by first | omega | (simp; done) | (simp; omega) | (simp [*]; done) | (simp [*]; omega))) w hw) (hok_cons (all_cons ((src_nil 1) w hw) (all_cons ((src_nil 1) w hw) (all_nil w))) (hok_nil w)))) (by first | assumption | omega | (simp; done) | (simp; omega)) (by first | omega | (simp; done) | (simp; omega) | (simp [*]; done) | (simp [*]; omega)) (by first | omega | (simp; done) | (simp; omega) | (simp [*]; done) | (simp [*]; omega)) (by first | omega | (simp; done) | (simp; omega) | (simp [*]; done) | (simp [*]; omega)) (by first | assumption | omega | (simp only [catp_cons, catp_nil, List.append_nil, List.length_append]; omega) | (simp [catp_cons, catp_nil]; done) | (simp [catp_cons, catp_nil]; omega))) (enters_of Try.func27 (by kernel_rfl) rfl) rfl rfl rfl rfl rfl (fun t179 q180 => ?_))
                  refine T_slot 47 (.agg ((mactag xs (catp ([(Pt.mk none 0 0 []), (Pt.mk none 0 0 [])]))).map b8).toArray) (.agg ((mactag xs []).map b8).toArray) rfl (by simp [catp]) ?_
                  refine D_on [5, 6] rfl ?_
                  refine D_pure (i := 23) [5, 6] rfl (by kernel_rfl) rfl (pr_eqagg (bo := .eql) (c := ((mactag xs []) == (mactag xs []))) (r := ((mactag xs []) == (mactag xs []))) (eqb8 (xs := (mactag xs [])) (ys := (mactag xs [])) Try.underlying26 Try.underlying5 (by kernel_rfl) (by first | omega | (simp; done) | (simp; omega) | (simp [*]; done) | (simp [*]; omega)) (by first | omega | (simp; done) | (simp; omega) | (simp [*]; done) | (simp [*]; omega))) (by kernel_rfl) rfl rfl rfl rfl rfl) (.inr rfl) rfl rfl ?_
                  refine D_pure (i := 24) [5, 6] rfl (by kernel_rfl) rfl (pr_pick_t rfl rfl rfl) (.inr rfl) rfl rfl ?_
                  refine D_pure (i := 25) [5, 6] rfl (by kernel_rfl) rfl (pr_move rfl rfl) (.inr rfl) rfl rfl ?_
                  refine T_slot 48 (.bool ((mactag xs []) == (mactag xs []))) (.bool true) rfl (congrArg _ (by simp)) ?_
                  refine T_slot 49 (.bool ((mactag xs []) == (mactag xs []))) (.bool true) rfl (congrArg _ (by simp)) ?_
                  refine T_slot 50 (.bool ((mactag xs []) == (mactag xs []))) (.bool true) rfl (congrArg _ (by simp)) ?_
                  refine D_pure (i := 26) [5, 6] rfl (by kernel_rfl) rfl (pr_move rfl rfl) (.inr rfl) rfl rfl ?_
                  refine D_pure (i := 27) [5, 6] rfl (by kernel_rfl) rfl (pr_move rfl rfl) (.inr rfl) rfl rfl ?_
                  refine D_pure (i := 30) [5, 6] rfl (by kernel_rfl) rfl (pr_move rfl rfl) (.inr rfl) rfl rfl ?_
                  refine D_pure (i := 31) [5, 6] rfl (by kernel_rfl) rfl (pr_move rfl rfl) (.inr rfl) rfl rfl ?_
                  refine D_one 28 _ rfl (by kernel_rfl) rfl (op_bslice (e := 24) (zs := [(.slice A n c)]) (qs := [(0, (.slice A n c))]) (fun _ => by kernel_rfl) rfl rfl rfl rfl (fun g181 => ?_))
                  refine D_on [6, 7] rfl ?_
                  refine D_one 29 _ rfl (by kernel_rfl) rfl (op_call0 (vs := [(.slice B nb d), (.slice (some ⟨g181, 0, none⟩) 1 1)]) (cap := []) (fun w hw => tag_f bs B nb d [(Pt.mk A n c xs)] (some ⟨g181, 0, none⟩) 1 1 w (hok_cons ((src_rd 7 rfl) w hw) (hok_cons ((src_full (z := 1) 0 rfl rfl (by first | omega | (simp; done) | (simp; omega) | (simp [*]; done) | (simp [*]; omega)) (by first | omega | (simp; done) | (simp; omega) | (simp [*]; done) | (simp [*]; omega))) w hw) (hok_cons (all_cons ((src_rd 6 rfl) w hw) (all_nil w)) (hok_nil w)))) (by first | assumption | omega | (simp; done) | (simp; omega)) (by first | omega | (simp; done) | (simp; omega) | (simp [*]; done) | (simp [*]; omega)) (by first | omega | (simp; done) | (simp; omega) | (simp [*]; done) | (simp [*]; omega)) (by first | omega | (simp; done) | (simp; omega) | (simp [*]; done) | (simp [*]; omega)) (by first | assumption | omega | (simp only [catp_cons, catp_nil, List.append_nil, List.length_append]; omega) | (simp [catp_cons, catp_nil]; done) | (simp [catp_cons, catp_nil]; omega))) (enters_of Try.func27 (by kernel_rfl) rfl) rfl rfl rfl rfl rfl (fun t182 q183 => ?_))
                  refine T_slot 54 (.agg ((mactag bs (catp [(Pt.mk A n c xs)])).map b8).toArray) (.agg ((mactag bs xs).map b8).toArray) rfl (by rw [catp_one]) ?_
                  refine D_on [6, 7] rfl ?_
                  refine D_one 32 _ rfl (by kernel_rfl) rfl (op_call0 (vs := [(.slice B nb d), (.slice A n c)]) (cap := []) (fun w hw => rtag_f bs B nb d xs A n c w (hok_cons ((src_rd 7 rfl) w hw) (hok_cons ((src_rd 6 rfl) w hw) (hok_nil w))) (by first | assumption | omega | (simp; done) | (simp; omega)) (by first | omega | (simp; done) | (simp; omega) | (simp [*]; done) | (simp [*]; omega)) (by first | assumption | omega | (simp; done) | (simp; omega)) (by first | omega | (simp; done) | (simp; omega) | (simp [*]; done) | (simp [*]; omega))) (enters_of Try.func28 (by kernel_rfl) rfl) rfl rfl rfl rfl rfl (fun t184 q185 => ?_))
                  refine D_on [6, 7] rfl ?_
                  refine D_pure (i := 33) [6, 7] rfl (by kernel_rfl) rfl (pr_eqagg (bo := .eql) (c := ((mactag bs xs) == (mactag bs xs))) (r := ((mactag bs xs) == (mactag bs xs))) (eqb8 (xs := (mactag bs xs)) (ys := (mactag bs xs)) Try.underlying26 Try.underlying5 (by kernel_rfl) (by first | omega | (simp; done) | (simp; omega) | (simp [*]; done) | (simp [*]; omega)) (by first | omega | (simp; done) | (simp; omega) | (simp [*]; done) | (simp [*]; omega))) (by kernel_rfl) rfl rfl rfl rfl rfl) (.inr rfl) rfl rfl ?_
                  refine D_pure (i := 34) [6, 7] rfl (by kernel_rfl) rfl (pr_pick_t rfl rfl rfl) (.inr rfl) rfl rfl ?_
                  refine D_pure (i := 35) [6, 7] rfl (by kernel_rfl) rfl (pr_assign rfl rfl) (.inr rfl) rfl rfl ?_
                  refine D_done (by kernel_rfl) ?_
                  exact T_meet () trivial (sc rfl sn) [6, 7] ⟨by decide, rfl⟩
            · skip
              refine id (op_bslice (e := 24) (zs := [(.slice B nb d)]) (qs := [(0, (.slice B nb d))]) (fun _ => by kernel_rfl) rfl rfl rfl rfl (fun g186 => ?_))
              refine D_on [3, 4] rfl ?_
              refine D_one 9 _ rfl (by kernel_rfl) rfl (op_bslice (e := 24) (zs := [(.slice B134 kk d), (.slice B133 (nb - kk) (d - kk))]) (qs := [(0, (.slice B134 kk d)), (1, (.slice B133 (nb - kk) (d - kk)))]) (fun _ => by kernel_rfl) rfl rfl rfl rfl (fun g187 => ?_))
              refine D_on [4, 5] rfl ?_
              refine D_one 10 _ rfl (by kernel_rfl) rfl (op_call0 (vs := [(.slice A n c), (.slice (some ⟨g187, 0, none⟩) 2 2)]) (cap := []) (fun w hw => tag_f xs A n c [(Pt.mk B134 kk d (List.take kk bs)), (Pt.mk B133 (nb - kk) (d - kk) (List.drop kk bs))] (some ⟨g187, 0, none⟩) 2 2 w (hok_cons ((src_rd 4 rfl) w hw) (hok_cons ((src_full (z := 1) 0 rfl rfl (by first | omega | (simp; done) | (simp; omega) | (simp [*]; done) | (simp [*]; omega)) (by first | omega | (simp; done) | (simp; omega) | (simp [*]; done) | (simp [*]; omega))) w hw) (hok_cons (all_cons ((src_rd 2 rfl) w hw) (all_cons ((src_rd 3 rfl) w hw) (all_nil w))) (hok_nil w)))) (by first | assumption | omega | (simp; done) | (simp; omega)) (by first | omega | (simp; done) | (simp; omega) | (simp [*]; done) | (simp [*]; omega)) (by first | omega | (simp; done) | (simp; omega) | (simp [*]; done) | (simp [*]; omega)) (by first | omega | (simp; done) | (simp; omega) | (simp [*]; done) | (simp [*]; omega)) (by first | assumption | omega | (simp only [catp_cons, catp_nil, List.append_nil, List.length_append]; omega) | (simp [catp_cons, catp_nil]; done) | (simp [catp_cons, catp_nil]; omega))) (enters_of Try.func27 (by kernel_rfl) rfl) rfl rfl rfl rfl rfl (fun t188 q189 => ?_))
              refine T_slot 35 (.agg ((mactag xs (catp [(Pt.mk B134 kk d (List.take kk bs)), (Pt.mk B133 (nb - kk) (d - kk) (List.drop kk bs))])).map b8).toArray) (.agg ((mactag xs bs).map b8).toArray) rfl (by rw [catp_two]) ?_
              refine D_on [4, 5] rfl ?_
              refine D_one 14 _ rfl (by kernel_rfl) rfl (op_call0 (vs := [(.slice A n c), (.slice (some ⟨g186, 0, none⟩) 1 1)]) (cap := []) (fun w hw => tag_f xs A n c [(Pt.mk B nb d bs)] (some ⟨g186, 0, none⟩) 1 1 w (hok_cons ((src_rd 4 rfl) w hw) (hok_cons ((src_full (z := 1) 1 rfl rfl (by first | omega | (simp; done) | (simp; omega) | (simp [*]; done) | (simp [*]; omega)) (by first | omega | (simp; done) | (simp; omega) | (simp [*]; done) | (simp [*]; omega))) w hw) (hok_cons (all_cons ((src_rd 5 rfl) w hw) (all_nil w)) (hok_nil w)))) (by first | assumption | omega | (simp; done) | (simp; omega)) (by first | omega | (simp; done) | (simp; omega) | (simp [*]; done) | (simp [*]; omega)) (by first | omega | (simp; done) | (simp; omega) | (simp [*]; done) | (simp [*]; omega)) (by first | omega | (simp; done) | (simp; omega) | (simp [*]; done) | (simp [*]; omega)) (by first | assumption | omega | (simp only [catp_cons, catp_nil, List.append_nil, List.length_append]; omega) | (simp [catp_cons, catp_nil]; done) | (simp [catp_cons, catp_nil]; omega))) (enters_of Try.func27 (by kernel_rfl) rfl) rfl rfl rfl rfl rfl (fun t190 q191 => ?_))
              refine T_slot 39 (.agg ((mactag xs (catp [(Pt.mk B nb d bs)])).map b8).toArray) (.agg ((mactag xs bs).map b8).toArray) rfl (by rw [catp_one]) ?_
              refine D_on [4, 5] rfl ?_
              refine D_pure (i := 15) [4, 5] rfl (by kernel_rfl) rfl (pr_eqagg (bo := .eql) (c := ((mactag xs bs) == (mactag xs bs))) (r := ((mactag xs bs) == (mactag xs bs))) (eqb8 (xs := (mactag xs bs)) (ys := (mactag xs bs)) Try.underlying26 Try.underlying5 (by kernel_rfl) (by first | omega | (simp; done) | (simp; omega) | (simp [*]; done) | (simp [*]; omega)) (by first | omega | (simp; done) | (simp; omega) | (simp [*]; done) | (simp [*]; omega))) (by kernel_rfl) rfl rfl rfl rfl rfl) (.inr rfl) rfl rfl ?_
              refine D_pure (i := 16) [4, 5] rfl (by kernel_rfl) rfl (pr_pick_t rfl rfl rfl) (.inr rfl) rfl rfl ?_
              refine D_pure (i := 17) [4, 5] rfl (by kernel_rfl) rfl (pr_move rfl rfl) (.inr rfl) rfl rfl ?_
              refine T_slot 40 (.bool ((mactag xs bs) == (mactag xs bs))) (.bool true) rfl (congrArg _ (by simp)) ?_
              refine T_slot 41 (.bool ((mactag xs bs) == (mactag xs bs))) (.bool true) rfl (congrArg _ (by simp)) ?_
              refine T_slot 42 (.bool ((mactag xs bs) == (mactag xs bs))) (.bool true) rfl (congrArg _ (by simp)) ?_
              refine D_pure (i := 18) [4, 5] rfl (by kernel_rfl) rfl (pr_move rfl rfl) (.inr rfl) rfl rfl ?_
              refine D_pure (i := 20) [4, 5] rfl (by kernel_rfl) rfl (pr_move rfl rfl) (.inr rfl) rfl rfl ?_
              refine D_all [19, 21] (by kernel_rfl) (by simp) ⟨⟨_, rfl, rfl, ?_⟩, ⟨_, rfl, rfl, ?_⟩, trivial⟩
              · skip
                refine id (op_call0 (vs := [(.slice A n c), (.slice none 0 0)]) (cap := []) (fun w hw => tag_f xs A n c [] none 0 0 w (hok_cons ((src_rd 4 rfl) w hw) (hok_cons ((src_nil 1) w hw) (hok_cons (all_nil w) (hok_nil w)))) (by first | assumption | omega | (simp; done) | (simp; omega)) (by first | omega | (simp; done) | (simp; omega) | (simp [*]; done) | (simp [*]; omega)) (by first | omega | (simp; done) | (simp; omega) | (simp [*]; done) | (simp [*]; omega)) (by first | omega | (simp; done) | (simp; omega) | (simp [*]; done) | (simp [*]; omega)) (by first | assumption | omega | (simp only [catp_cons, catp_nil, List.append_nil, List.length_append]; omega) | (simp [catp_cons, catp_nil]; done) | (simp [catp_cons, catp_nil]; omega))) (enters_of Try.func27 (by kernel_rfl) rfl) rfl rfl rfl rfl rfl (fun t192 q193 => ?_))
                refine T_slot 44 (.agg ((mactag xs (catp [])).map b8).toArray) (.agg ((mactag xs []).map b8).toArray) rfl (rfl) ?_
                refine D_on [4, 5] rfl ?_
                refine D_one 21 _ rfl (by kernel_rfl) rfl (op_bslice (e := 24) (zs := [(.slice none 0 0), (.slice none 0 0)]) (qs := [(0, (.slice none 0 0)), (1, (.slice none 0 0))]) (fun _ => by kernel_rfl) rfl rfl rfl rfl (fun g194 => ?_))
                refine D_on [5, 6] rfl ?_
                refine D_one 22 _ rfl (by kernel_rfl) rfl (op_call0 (vs := [(.slice A n c), (.slice (some ⟨g194, 0, none⟩) 2 2)]) (cap := []) (fun w hw => tag_f xs A n c ([(Pt.mk none 0 0 []), (Pt.mk none 0 0 [])]) (some ⟨g194, 0, none⟩) 2 2 w (hok_cons ((src_rd 5 rfl) w hw) (hok_cons ((src_full (z := 1) 0 rfl rfl (by first | omega | (simp; done) | (simp; omega) | (simp [*]; done) | (simp [*]; omega)) (by first | omega | (simp; done) | (simp; omega) | (simp [*]; done) | (simp [*]; omega))) w hw) (hok_cons (all_cons ((src_nil 1) w hw) (all_cons ((src_nil 1) w hw) (all_nil w))) (hok_nil w)))) (by first | assumption | omega | (simp; done) | (simp; omega)) (by first | omega | (simp; done) | (simp; omega) | (simp [*]; done) | (simp [*]; omega)) (by first | omega | (simp; done) | (simp; omega) | (simp [*]; done) | (simp [*]; omega)) (by first | omega | (simp; done) | (simp; omega) | (simp [*]; done) | (simp [*]; omega)) (by first | assumption | omega | (simp only [catp_cons, catp_nil, List.append_nil, List.length_append]; omega) | (simp [catp_cons, catp_nil]; done) | (simp [catp_cons, catp_nil]; omega))) (enters_of Try.func27 (by kernel_rfl) rfl) rfl rfl rfl rfl rfl (fun t195 q196 => ?_))
                refine T_slot 47 (.agg ((mactag xs (catp ([(Pt.mk none 0 0 []), (Pt.mk none 0 0 [])]))).map b8).toArray) (.agg ((mactag xs []).map b8).toArray) rfl (by simp [catp]) ?_
                refine D_on [5, 6] rfl ?_
                refine D_pure (i := 23) [5, 6] rfl (by kernel_rfl) rfl (pr_eqagg (bo := .eql) (c := ((mactag xs []) == (mactag xs []))) (r := ((mactag xs []) == (mactag xs []))) (eqb8 (xs := (mactag xs [])) (ys := (mactag xs [])) Try.underlying26 Try.underlying5 (by kernel_rfl) (by first | omega | (simp; done) | (simp; omega) | (simp [*]; done) | (simp [*]; omega)) (by first | omega | (simp; done) | (simp; omega) | (simp [*]; done) | (simp [*]; omega))) (by kernel_rfl) rfl rfl rfl rfl rfl) (.inr rfl) rfl rfl ?_
                refine D_pure (i := 24) [5, 6] rfl (by kernel_rfl) rfl (pr_pick_t rfl rfl rfl) (.inr rfl) rfl rfl ?_
                refine D_pure (i := 25) [5, 6] rfl (by kernel_rfl) rfl (pr_move rfl rfl) (.inr rfl) rfl rfl ?_
                refine T_slot 48 (.bool ((mactag xs []) == (mactag xs []))) (.bool true) rfl (congrArg _ (by simp)) ?_
                refine T_slot 49 (.bool ((mactag xs []) == (mactag xs []))) (.bool true) rfl (congrArg _ (by simp)) ?_
                refine T_slot 50 (.bool ((mactag xs []) == (mactag xs []))) (.bool true) rfl (congrArg _ (by simp)) ?_
                refine D_pure (i := 26) [5, 6] rfl (by kernel_rfl) rfl (pr_move rfl rfl) (.inr rfl) rfl rfl ?_
                refine D_pure (i := 27) [5, 6] rfl (by kernel_rfl) rfl (pr_move rfl rfl) (.inr rfl) rfl rfl ?_
                refine D_pure (i := 30) [5, 6] rfl (by kernel_rfl) rfl (pr_move rfl rfl) (.inr rfl) rfl rfl ?_
                refine D_pure (i := 31) [5, 6] rfl (by kernel_rfl) rfl (pr_move rfl rfl) (.inr rfl) rfl rfl ?_
                refine D_one 28 _ rfl (by kernel_rfl) rfl (op_bslice (e := 24) (zs := [(.slice A n c)]) (qs := [(0, (.slice A n c))]) (fun _ => by kernel_rfl) rfl rfl rfl rfl (fun g197 => ?_))
                refine D_on [6, 7] rfl ?_
                refine D_one 29 _ rfl (by kernel_rfl) rfl (op_call0 (vs := [(.slice B nb d), (.slice (some ⟨g197, 0, none⟩) 1 1)]) (cap := []) (fun w hw => tag_f bs B nb d [(Pt.mk A n c xs)] (some ⟨g197, 0, none⟩) 1 1 w (hok_cons ((src_rd 7 rfl) w hw) (hok_cons ((src_full (z := 1) 0 rfl rfl (by first | omega | (simp; done) | (simp; omega) | (simp [*]; done) | (simp [*]; omega)) (by first | omega | (simp; done) | (simp; omega) | (simp [*]; done) | (simp [*]; omega))) w hw) (hok_cons (all_cons ((src_rd 6 rfl) w hw) (all_nil w)) (hok_nil w)))) (by first | assumption | omega | (simp; done) | (simp; omega)) (by first | omega | (simp; done) | (simp; omega) | (simp [*]; done) | (simp [*]; omega)) (by first | omega | (simp; done) | (simp; omega) | (simp [*]; done) | (simp [*]; omega)) (by first | omega | (simp; done) | (simp; omega) | (simp [*]; done) | (simp [*]; omega)) (by first | assumption | omega | (simp only [catp_cons, catp_nil, List.append_nil, List.length_append]; omega) | (simp [catp_cons, catp_nil]; done) | (simp [catp_cons, catp_nil]; omega))) (enters_of Try.func27 (by kernel_rfl) rfl) rfl rfl rfl rfl rfl (fun t198 q199 => ?_))
                refine T_slot 54 (.agg ((mactag bs (catp [(Pt.mk A n c xs)])).map b8).toArray) (.agg ((mactag bs xs).map b8).toArray) rfl (by rw [catp_one]) ?_
                refine D_on [6, 7] rfl ?_
                refine D_one 32 _ rfl (by kernel_rfl) rfl (op_call0 (vs := [(.slice B nb d), (.slice A n c)]) (cap := []) (fun w hw => rtag_f bs B nb d xs A n c w (hok_cons ((src_rd 7 rfl) w hw) (hok_cons ((src_rd 6 rfl) w hw) (hok_nil w))) (by first | assumption | omega | (simp; done) | (simp; omega)) (by first | omega | (simp; done) | (simp; omega) | (simp [*]; done) | (simp [*]; omega)) (by first | assumption | omega | (simp; done) | (simp; omega)) (by first | omega | (simp; done) | (simp; omega) | (simp [*]; done) | (simp [*]; omega))) (enters_of Try.func28 (by kernel_rfl) rfl) rfl rfl rfl rfl rfl (fun t200 q201 => ?_))
                refine D_on [6, 7] rfl ?_
                refine D_pure (i := 33) [6, 7] rfl (by kernel_rfl) rfl (pr_eqagg (bo := .eql) (c := ((mactag bs xs) == (mactag bs xs))) (r := ((mactag bs xs) == (mactag bs xs))) (eqb8 (xs := (mactag bs xs)) (ys := (mactag bs xs)) Try.underlying26 Try.underlying5 (by kernel_rfl) (by first | omega | (simp; done) | (simp; omega) | (simp [*]; done) | (simp [*]; omega)) (by first | omega | (simp; done) | (simp; omega) | (simp [*]; done) | (simp [*]; omega))) (by kernel_rfl) rfl rfl rfl rfl rfl) (.inr rfl) rfl rfl ?_
                refine D_pure (i := 34) [6, 7] rfl (by kernel_rfl) rfl (pr_pick_t rfl rfl rfl) (.inr rfl) rfl rfl ?_
                refine D_pure (i := 35) [6, 7] rfl (by kernel_rfl) rfl (pr_assign rfl rfl) (.inr rfl) rfl rfl ?_
                refine D_done (by kernel_rfl) ?_
                exact T_meet () trivial (sc rfl sn) [6, 7] ⟨by decide, rfl⟩
              · skip
                refine id (op_bslice (e := 24) (zs := [(.slice none 0 0), (.slice none 0 0)]) (qs := [(0, (.slice none 0 0)), (1, (.slice none 0 0))]) (fun _ => by kernel_rfl) rfl rfl rfl rfl (fun g202 => ?_))
                refine D_on [5, 6] rfl ?_
                refine D_one 19 _ rfl (by kernel_rfl) rfl (op_call0 (vs := [(.slice A n c), (.slice none 0 0)]) (cap := []) (fun w hw => tag_f xs A n c [] none 0 0 w (hok_cons ((src_rd 5 rfl) w hw) (hok_cons ((src_nil 1) w hw) (hok_cons (all_nil w) (hok_nil w)))) (by first | assumption | omega | (simp; done) | (simp; omega)) (by first | omega | (simp; done) | (simp; omega) | (simp [*]; done) | (simp [*]; omega)) (by first | omega | (simp; done) | (simp; omega) | (simp [*]; done) | (simp [*]; omega)) (by first | omega | (simp; done) | (simp; omega) | (simp [*]; done) | (simp [*]; omega)) (by first | assumption | omega | (simp only [catp_cons, catp_nil, List.append_nil, List.length_append]; omega) | (simp [catp_cons, catp_nil]; done) | (simp [catp_cons, catp_nil]; omega))) (enters_of Try.func27 (by kernel_rfl) rfl) rfl rfl rfl rfl rfl (fun t203 q204 => ?_))
                refine T_slot 44 (.agg ((mactag xs (catp [])).map b8).toArray) (.agg ((mactag xs []).map b8).toArray) rfl (rfl) ?_
                refine D_on [5, 6] rfl ?_
                refine D_one 22 _ rfl (by kernel_rfl) rfl (op_call0 (vs := [(.slice A n c), (.slice (some ⟨g202, 0, none⟩) 2 2)]) (cap := []) (fun w hw => tag_f xs A n c ([(Pt.mk none 0 0 []), (Pt.mk none 0 0 [])]) (some ⟨g202, 0, none⟩) 2 2 w (hok_cons ((src_rd 5 rfl) w hw) (hok_cons ((src_full (z := 1) 0 rfl rfl (by first | omega | (simp; done) | (simp; omega) | (simp [*]; done) | (simp [*]; omega)) (by first | omega | (simp; done) | (simp; omega) | (simp [*]; done) | (simp [*]; omega))) w hw) (hok_cons (all_cons ((src_nil 1) w hw) (all_cons ((src_nil 1) w hw) (all_nil w))) (hok_nil w)))) (by first | assumption | omega | (simp; done) | (simp; omega)) (by first | omega | (simp; done) | (simp; omega) | (simp [*]; done) | (simp [*]; omega)) (by first | omega | (simp; done) | (simp; omega) | (simp [*]; done) | (simp [*]; omega)) (by first | omega | (simp; done) | (simp; omega) | (simp [*]; done) | (simp [*]; omega)) (by first | assumption | omega | (simp only [catp_cons, catp_nil, List.append_nil, List.length_append]; omega) | (simp [catp_cons, catp_nil]; done) | (simp [catp_cons, catp_nil]; omega))) (enters_of Try.func27 (by kernel_rfl) rfl) rfl rfl rfl rfl rfl (fun t205 q206 => ?_))
                refine T_slot 47 (.agg ((mactag xs (catp ([(Pt.mk none 0 0 []), (Pt.mk none 0 0 [])]))).map b8).toArray) (.agg ((mactag xs []).map b8).toArray) rfl (by simp [catp]) ?_
                refine D_on [5, 6] rfl ?_
                refine D_pure (i := 23) [5, 6] rfl (by kernel_rfl) rfl (pr_eqagg (bo := .eql) (c := ((mactag xs []) == (mactag xs []))) (r := ((mactag xs []) == (mactag xs []))) (eqb8 (xs := (mactag xs [])) (ys := (mactag xs [])) Try.underlying26 Try.underlying5 (by kernel_rfl) (by first | omega | (simp; done) | (simp; omega) | (simp [*]; done) | (simp [*]; omega)) (by first | omega | (simp; done) | (simp; omega) | (simp [*]; done) | (simp [*]; omega))) (by kernel_rfl) rfl rfl rfl rfl rfl) (.inr rfl) rfl rfl ?_
                refine D_pure (i := 24) [5, 6] rfl (by kernel_rfl) rfl (pr_pick_t rfl rfl rfl) (.inr rfl) rfl rfl ?_
                refine D_pure (i := 25) [5, 6] rfl (by kernel_rfl) rfl (pr_move rfl rfl) (.inr rfl) rfl rfl ?_
                refine T_slot 48 (.bool ((mactag xs []) == (mactag xs []))) (.bool true) rfl (congrArg _ (by simp)) ?_
                refine T_slot 49 (.bool ((mactag xs []) == (mactag xs []))) (.bool true) rfl (congrArg _ (by simp)) ?_
                refine T_slot 50 (.bool ((mactag xs []) == (mactag xs []))) (.bool true) rfl (congrArg _ (by simp)) ?_
                refine D_pure (i := 26) [5, 6] rfl (by kernel_rfl) rfl (pr_move rfl rfl) (.inr rfl) rfl rfl ?_
                refine D_pure (i := 27) [5, 6] rfl (by kernel_rfl) rfl (pr_move rfl rfl) (.inr rfl) rfl rfl ?_
                refine D_pure (i := 30) [5, 6] rfl (by kernel_rfl) rfl (pr_move rfl rfl) (.inr rfl) rfl rfl ?_
                refine D_pure (i := 31) [5, 6] rfl (by kernel_rfl) rfl (pr_move rfl rfl) (.inr rfl) rfl rfl ?_
                refine D_one 28 _ rfl (by kernel_rfl) rfl (op_bslice (e := 24) (zs := [(.slice A n c)]) (qs := [(0, (.slice A n c))]) (fun _ => by kernel_rfl) rfl rfl rfl rfl (fun g207 => ?_))
                refine D_on [6, 7] rfl ?_
                refine D_one 29 _ rfl (by kernel_rfl) rfl (op_call0 (vs := [(.slice B nb d), (.slice (some ⟨g207, 0, none⟩) 1 1)]) (cap := []) (fun w hw => tag_f bs B nb d [(Pt.mk A n c xs)] (some ⟨g207, 0, none⟩) 1 1 w (hok_cons ((src_rd 7 rfl) w hw) (hok_cons ((src_full (z := 1) 0 rfl rfl (by first | omega | (simp; done) | (simp; omega) | (simp [*]; done) | (simp [*]; omega)) (by first | omega | (simp; done) | (simp; omega) | (simp [*]; done) | (simp [*]; omega))) w hw) (hok_cons (all_cons ((src_rd 6 rfl) w hw) (all_nil w)) (hok_nil w)))) (by first | assumption | omega | (simp; done) | (simp; omega)) (by first | omega | (simp; done) | (simp; omega) | (simp [*]; done) | (simp [*]; omega)) (by first | omega | (simp; done) | (simp; omega) | (simp [*]; done) | (simp [*]; omega)) (by first | omega | (simp; done) | (simp; omega) | (simp [*]; done) | (simp [*]; omega)) (by first | assumption | omega | (simp only [catp_cons, catp_nil, List.append_nil, List.length_append]; omega) | (simp [catp_cons, catp_nil]; done) | (simp [catp_cons, catp_nil]; omega))) (enters_of Try.func27 (by kernel_rfl) rfl) rfl rfl rfl rfl rfl (fun t208 q209 => ?_))
                refine T_slot 54 (.agg ((mactag bs (catp [(Pt.mk A n c xs)])).map b8).toArray) (.agg ((mactag bs xs).map b8).toArray) rfl (by rw [catp_one]) ?_
                refine D_on [6, 7] rfl ?_
                refine D_one 32 _ rfl (by kernel_rfl) rfl (op_call0 (vs := [(.slice B nb d), (.slice A n c)]) (cap := []) (fun w hw => rtag_f bs B nb d xs A n c w (hok_cons ((src_rd 7 rfl) w hw) (hok_cons ((src_rd 6 rfl) w hw) (hok_nil w))) (by first | assumption | omega | (simp; done) | (simp; omega)) (by first | omega | (simp; done) | (simp; omega) | (simp [*]; done) | (simp [*]; omega)) (by first | assumption | omega | (simp; done) | (simp; omega)) (by first | omega | (simp; done) | (simp; omega) | (simp [*]; done) | (simp [*]; omega))) (enters_of Try.func28 (by kernel_rfl) rfl) rfl rfl rfl rfl rfl (fun t210 q211 => ?_))
                refine D_on [6, 7] rfl ?_
                refine D_pure (i := 33) [6, 7] rfl (by kernel_rfl) rfl (pr_eqagg (bo := .eql) (c := ((mactag bs xs) == (mactag bs xs))) (r := ((mactag bs xs) == (mactag bs xs))) (eqb8 (xs := (mactag bs xs)) (ys := (mactag bs xs)) Try.underlying26 Try.underlying5 (by kernel_rfl) (by first | omega | (simp; done) | (simp; omega) | (simp [*]; done) | (simp [*]; omega)) (by first | omega | (simp; done) | (simp; omega) | (simp [*]; done) | (simp [*]; omega))) (by kernel_rfl) rfl rfl rfl rfl rfl) (.inr rfl) rfl rfl ?_
                refine D_pure (i := 34) [6, 7] rfl (by kernel_rfl) rfl (pr_pick_t rfl rfl rfl) (.inr rfl) rfl rfl ?_
                refine D_pure (i := 35) [6, 7] rfl (by kernel_rfl) rfl (pr_assign rfl rfl) (.inr rfl) rfl rfl ?_
                refine D_done (by kernel_rfl) ?_
                exact T_meet () trivial (sc rfl sn) [6, 7] ⟨by decide, rfl⟩
          · skip
            refine id (op_bslice (e := 24) (zs := [(.slice B nb d)]) (qs := [(0, (.slice B nb d))]) (fun _ => by kernel_rfl) rfl rfl rfl rfl (fun g212 => ?_))
            refine D_on [2, 3] rfl ?_
            refine D_one 5 _ rfl (by kernel_rfl) rfl (op_slice_rd (l := 0) (u := kk) 3 rfl (by first | omega | (simp; done) | (simp; omega) | (simp [*]; done) | (simp [*]; omega)) (by first | omega | (simp; done) | (simp; omega) | (simp [*]; done) | (simp [*]; omega)) Try.underlying24 (by kernel_rfl) rfl rfl rfl ⟨_, rfl⟩ rfl rfl (fun B213 => ?_))
            refine T_as 0 _ (.rd B213 1 kk d ((List.take kk bs).map b8)) rfl (by congr 1; simp [List.map_take, List.map_drop] <;> omega) ?_
            refine T_slot 30 _ (.slice B213 kk d) rfl (by congr 1) ?_
            refine D_on [3, 4] rfl ?_
            refine D_one 9 _ rfl (by kernel_rfl) rfl (op_bslice (e := 24) (zs := [(.slice B213 kk d), (.slice B133 (nb - kk) (d - kk))]) (qs := [(0, (.slice B213 kk d)), (1, (.slice B133 (nb - kk) (d - kk)))]) (fun _ => by kernel_rfl) rfl rfl rfl rfl (fun g214 => ?_))
            refine D_on [4, 5] rfl ?_
            refine D_one 10 _ rfl (by kernel_rfl) rfl (op_call0 (vs := [(.slice A n c), (.slice (some ⟨g214, 0, none⟩) 2 2)]) (cap := []) (fun w hw => tag_f xs A n c [(Pt.mk B213 kk d (List.take kk bs)), (Pt.mk B133 (nb - kk) (d - kk) (List.drop kk bs))] (some ⟨g214, 0, none⟩) 2 2 w (hok_cons ((src_rd 4 rfl) w hw) (hok_cons ((src_full (z := 1) 0 rfl rfl (by first | omega | (simp; done) | (simp; omega) | (simp [*]; done) | (simp [*]; omega)) (by first | omega | (simp; done) | (simp; omega) | (simp [*]; done) | (simp [*]; omega))) w hw) (hok_cons (all_cons ((src_rd 1 rfl) w hw) (all_cons ((src_rd 3 rfl) w hw) (all_nil w))) (hok_nil w)))) (by first | assumption | omega | (simp; done) | (simp; omega)) (by first | omega | (simp; done) | (simp; omega) | (simp [*]; done) | (simp [*]; omega)) (by first | omega | (simp; done) | (simp; omega) | (simp [*]; done) | (simp [*]; omega)) (by first | omega | (simp; done) | (simp; omega) | (simp [*]; done) | (simp [*]; omega)) (by first | assumption | omega | (simp only [catp_cons, catp_nil, List.append_nil, List.length_append]; omega) | (simp [catp_cons, catp_nil]; done) | (simp [catp_cons, catp_nil]; omega))) (enters_of Try.func27 (by kernel_rfl) rfl) rfl rfl rfl rfl rfl (fun t215 q216 => ?_))
            refine T_slot 35 (.agg ((mactag xs (catp [(Pt.mk B213 kk d (List.take kk bs)), (Pt.mk B133 (nb - kk) (d - kk) (List.drop kk bs))])).map b8).toArray) (.agg ((mactag xs bs).map b8).toArray) rfl (by rw [catp_two]) ?_
            refine D_on [4, 5] rfl ?_
            refine D_one 14 _ rfl (by kernel_rfl) rfl (op_call0 (vs := [(.slice A n c), (.slice (some ⟨g212, 0, none⟩) 1 1)]) (cap := []) (fun w hw => tag_f xs A n c [(Pt.mk B nb d bs)] (some ⟨g212, 0, none⟩) 1 1 w (hok_cons ((src_rd 4 rfl) w hw) (hok_cons ((src_full (z := 1) 2 rfl rfl (by first | omega | (simp; done) | (simp; omega) | (simp [*]; done) | (simp [*]; omega)) (by first | omega | (simp; done) | (simp; omega) | (simp [*]; done) | (simp [*]; omega))) w hw) (hok_cons (all_cons ((src_rd 5 rfl) w hw) (all_nil w)) (hok_nil w)))) (by first | assumption | omega | (simp; done) | (simp; omega)) (by first | omega | (simp; done) | (simp; omega) | (simp [*]; done) | (simp [*]; omega)) (by first | omega | (simp; done) | (simp; omega) | (simp [*]; done) | (simp [*]; omega)) (by first | omega | (simp; done) | (simp; omega) | (simp [*]; done) | (simp [*]; omega)) (by first | assumption | omega | (simp only [catp_cons, catp_nil, List.append_nil, List.length_append]; omega) | (simp [catp_cons, catp_nil]; done) | (simp [catp_cons, catp_nil]; omega))) (enters_of Try.func27 (by kernel_rfl) rfl) rfl rfl rfl rfl rfl (fun t217 q218 => ?_))
            refine T_slot 39 (.agg ((mactag xs (catp [(Pt.mk B nb d bs)])).map b8).toArray) (.agg ((mactag xs bs).map b8).toArray) rfl (by rw [catp_one]) ?_
            refine D_on [4, 5] rfl ?_
            refine D_pure (i := 15) [4, 5] rfl (by kernel_rfl) rfl (pr_eqagg (bo := .eql) (c := ((mactag xs bs) == (mactag xs bs))) (r := ((mactag xs bs) == (mactag xs bs))) (eqb8 (xs := (mactag xs bs)) (ys := (mactag xs bs)) Try.underlying26 Try.underlying5 (by kernel_rfl) (by first | omega | (simp; done) | (simp; omega) | (simp [*]; done) | (simp [*]; omega)) (by first | omega | (simp; done) | (simp; omega) | (simp [*]; done) | (simp [*]; omega))) (by kernel_rfl) rfl rfl rfl rfl rfl) (.inr rfl) rfl rfl ?_
            refine D_pure (i := 16) [4, 5] rfl (by kernel_rfl) rfl (pr_pick_t rfl rfl rfl) (.inr rfl) rfl rfl ?_
            refine D_pure (i := 17) [4, 5] rfl (by kernel_rfl) rfl (pr_move rfl rfl) (.inr rfl) rfl rfl ?_
            refine T_slot 40 (.bool ((mactag xs bs) == (mactag xs bs))) (.bool true) rfl (congrArg _ (by simp)) ?_
            refine T_slot 41 (.bool ((mactag xs bs) == (mactag xs bs))) (.bool true) rfl (congrArg _ (by simp)) ?_
            refine T_slot 42 (.bool ((mactag xs bs) == (mactag xs bs))) (.bool true) rfl (congrArg _ (by simp)) ?_
            refine D_pure (i := 18) [4, 5] rfl (by kernel_rfl) rfl (pr_move rfl rfl) (.inr rfl) rfl rfl ?_
            refine D_pure (i := 20) [4, 5] rfl (by kernel_rfl) rfl (pr_move rfl rfl) (.inr rfl) rfl rfl ?_
            refine D_all [19, 21] (by kernel_rfl) (by simp) ⟨⟨_, rfl, rfl, ?_⟩, ⟨_, rfl, rfl, ?_⟩, trivial⟩
            · skip
              refine id (op_call0 (vs := [(.slice A n c), (.slice none 0 0)]) (cap := []) (fun w hw => tag_f xs A n c [] none 0 0 w (hok_cons ((src_rd 4 rfl) w hw) (hok_cons ((src_nil 1) w hw) (hok_cons (all_nil w) (hok_nil w)))) (by first | assumption | omega | (simp; done) | (simp; omega)) (by first | omega | (simp; done) | (simp; omega) | (simp [*]; done) | (simp [*]; omega)) (by first | omega | (simp; done) | (simp; omega) | (simp [*]; done) | (simp [*]; omega)) (by first | omega | (simp; done) | (simp; omega) | (simp [*]; done) | (simp [*]; omega)) (by first | assumption | omega | (simp only [catp_cons, catp_nil, List.append_nil, List.length_append]; omega) | (simp [catp_cons, catp_nil]; done) | (simp [catp_cons, catp_nil]; omega))) (enters_of Try.func27 (by kernel_rfl) rfl) rfl rfl rfl rfl rfl (fun t219 q220 => ?_))
              refine T_slot 44 (.agg ((mactag xs (catp [])).map b8).toArray) (.agg ((mactag xs []).map b8).toArray) rfl (rfl) ?_
              refine D_on [4, 5] rfl ?_
              refine D_one 21 _ rfl (by kernel_rfl) rfl (op_bslice (e := 24) (zs := [(.slice none 0 0), (.slice none 0 0)]) (qs := [(0, (.slice none 0 0)), (1, (.slice none 0 0))]) (fun _ => by kernel_rfl) rfl rfl rfl rfl (fun g221 => ?_))
              refine D_on [5, 6] rfl ?_
              refine D_one 22 _ rfl (by kernel_rfl) rfl (op_call0 (vs := [(.slice A n c), (.slice (some ⟨g221, 0, none⟩) 2 2)]) (cap := []) (fun w hw => tag_f xs A n c ([(Pt.mk none 0 0 []), (Pt.mk none 0 0 [])]) (some ⟨g221, 0, none⟩) 2 2 w (hok_cons ((src_rd 5 rfl) w hw) (hok_cons ((src_full (z := 1) 0 rfl rfl (by first | omega | (simp; done) | (simp; omega) | (simp [*]; done) | (simp [*]; omega)) (by first | omega | (simp; done) | (simp; omega) | (simp [*]; done) | (simp [*]; omega))) w hw) (hok_cons (all_cons ((src_nil 1) w hw) (all_cons ((src_nil 1) w hw) (all_nil w))) (hok_nil w)))) (by first | assumption | omega | (simp; done) | (simp; omega)) (by first | omega | (simp; done) | (simp; omega) | (simp [*]; done) | (simp [*]; omega)) (by first | omega | (simp; done) | (simp; omega) | (simp [*]; done) | (simp [*]; omega)) (by first | omega | (simp; done) | (simp; omega) | (simp [*]; done) | (simp [*]; omega)) (by first | assumption | omega | (simp only [catp_cons, catp_nil, List.append_nil, List.length_append]; omega) | (simp [catp_cons, catp_nil]; done) | (simp [catp_cons, catp_nil]; omega))) (enters_of Try.func27 (by kernel_rfl) rfl) rfl rfl rfl rfl rfl (fun t222 q223 => ?_))
              refine T_slot 47 (.agg ((mactag xs (catp ([(Pt.mk none 0 0 []), (Pt.mk none 0 0 [])]))).map b8).toArray) (.agg ((mactag xs []).map b8).toArray) rfl (by simp [catp]) ?_
              refine D_on [5, 6] rfl ?_
              refine D_pure (i := 23) [5, 6] rfl (by kernel_rfl) rfl (pr_eqagg (bo := .eql) (c := ((mactag xs []) == (mactag xs []))) (r := ((mactag xs []) == (mactag xs []))) (eqb8 (xs := (mactag xs [])) (ys := (mactag xs [])) Try.underlying26 Try.underlying5 (by kernel_rfl) (by first | omega | (simp; done) | (simp; omega) | (simp [*]; done) | (simp [*]; omega)) (by first | omega | (simp; done) | (simp; omega) | (simp [*]; done) | (simp [*]; omega))) (by kernel_rfl) rfl rfl rfl rfl rfl) (.inr rfl) rfl rfl ?_
              refine D_pure (i := 24) [5, 6] rfl (by kernel_rfl) rfl (pr_pick_t rfl rfl rfl) (.inr rfl) rfl rfl ?_
              refine D_pure (i := 25) [5, 6] rfl (by kernel_rfl) rfl (pr_move rfl rfl) (.inr rfl) rfl rfl ?_
              refine T_slot 48 (.bool ((mactag xs []) == (mactag xs []))) (.bool true) rfl (congrArg _ (by simp)) ?_
              refine T_slot 49 (.bool ((mactag xs []) == (mactag xs []))) (.bool true) rfl (congrArg _ (by simp)) ?_
              refine T_slot 50 (.bool ((mactag xs []) == (mactag xs []))) (.bool true) rfl (congrArg _ (by simp)) ?_
              refine D_pure (i := 26) [5, 6] rfl (by kernel_rfl) rfl (pr_move rfl rfl) (.inr rfl) rfl rfl ?_
              refine D_pure (i := 27) [5, 6] rfl (by kernel_rfl) rfl (pr_move rfl rfl) (.inr rfl) rfl rfl ?_
              refine D_pure (i := 30) [5, 6] rfl (by kernel_rfl) rfl (pr_move rfl rfl) (.inr rfl) rfl rfl ?_
              refine D_pure (i := 31) [5, 6] rfl (by kernel_rfl) rfl (pr_move rfl rfl) (.inr rfl) rfl rfl ?_
              refine D_one 28 _ rfl (by kernel_rfl) rfl (op_bslice (e := 24) (zs := [(.slice A n c)]) (qs := [(0, (.slice A n c))]) (fun _ => by kernel_rfl) rfl rfl rfl rfl (fun g224 => ?_))
              refine D_on [6, 7] rfl ?_
              refine D_one 29 _ rfl (by kernel_rfl) rfl (op_call0 (vs := [(.slice B nb d), (.slice (some ⟨g224, 0, none⟩) 1 1)]) (cap := []) (fun w hw => tag_f bs B nb d [(Pt.mk A n c xs)] (some ⟨g224, 0, none⟩) 1 1 w (hok_cons ((src_rd 7 rfl) w hw) (hok_cons ((src_full (z := 1) 0 rfl rfl (by first | omega | (simp; done) | (simp; omega) | (simp [*]; done) | (simp [*]; omega)) (by first | omega | (simp; done) | (simp; omega) | (simp [*]; done) | (simp [*]; omega))) w hw) (hok_cons (all_cons ((src_rd 6 rfl) w hw) (all_nil w)) (hok_nil w)))) (by first | assumption | omega | (simp; done) | (simp; omega)) (by first | omega | (simp; done) | (simp; omega) | (simp [*]; done) | (simp [*]; omega)) (by first | omega | (simp; done) | (simp; omega) | (simp [*]; done) | (simp [*]; omega)) (by first | omega | (simp; done) | (simp; omega) | (simp [*]; done) | (simp [*]; omega)) (by first | assumption | omega | (simp only [catp_cons, catp_nil, List.append_nil, List.length_append]; omega) | (simp [catp_cons, catp_nil]; done) | (simp [catp_cons, catp_nil]; omega))) (enters_of Try.func27 (by kernel_rfl) rfl) rfl rfl rfl rfl rfl (fun t225 q226 => ?_))
              refine T_slot 54 (.agg ((mactag bs (catp [(Pt.mk A n c xs)])).map b8).toArray) (.agg ((mactag bs xs).map b8).toArray) rfl (by rw [catp_one]) ?_
              refine D_on [6, 7] rfl ?_
              refine D_one 32 _ rfl (by kernel_rfl) rfl (op_call0 (vs := [(.slice B nb d), (.slice A n c)]) (cap := []) (fun w hw => rtag_f bs B nb d xs A n c w (hok_cons ((src_rd 7 rfl) w hw) (hok_cons ((src_rd 6 rfl) w hw) (hok_nil w))) (by first | assumption | omega | (simp; done) | (simp; omega)) (by first | omega | (simp; done) | (simp; omega) | (simp [*]; done) | (simp [*]; omega)) (by first | assumption | omega | (simp; done) | (simp; omega)) (by first | omega | (simp; done) | (simp; omega) | (simp [*]; done) | (simp [*]; omega))) (enters_of Try.func28 (by kernel_rfl) rfl) rfl rfl rfl rfl rfl (fun t227 q228 => ?_))
              refine D_on [6, 7] rfl ?_
              refine D_pure (i := 33) [6, 7] rfl (by kernel_rfl) rfl (pr_eqagg (bo := .eql) (c := ((mactag bs xs) == (mactag bs xs))) (r := ((mactag bs xs) == (mactag bs xs))) (eqb8 (xs := (mactag bs xs)) (ys := (mactag bs xs)) Try.underlying26 Try.underlying5 (by kernel_rfl) (by first | omega | (simp; done) | (simp; omega) | (simp [*]; done) | (simp [*]; omega)) (by first | omega | (simp; done) | (simp; omega) | (simp [*]; done) | (simp [*]; omega))) (by kernel_rfl) rfl rfl rfl rfl rfl) (.inr rfl) rfl rfl ?_
              refine D_pure (i := 34) [6, 7] rfl (by kernel_rfl) rfl (pr_pick_t rfl rfl rfl) (.inr rfl) rfl rfl ?_
              refine D_pure (i := 35) [6, 7] rfl (by kernel_rfl) rfl (pr_assign rfl rfl) (.inr rfl) rfl rfl ?_
              refine D_done (by kernel_rfl) ?_
              exact T_meet () trivial (sc rfl sn) [6, 7] ⟨by decide, rfl⟩
            · skip
              refine id (op_bslice (e := 24) (zs := [(.slice none 0 0), (.slice none 0 0)]) (qs := [(0, (.slice none 0 0)), (1, (.slice none 0 0))]) (fun _ => by kernel_rfl) rfl rfl rfl rfl (fun g229 => ?_))
              refine D_on [5, 6] rfl ?_
              refine D_one 19 _ rfl (by kernel_rfl) rfl (op_call0 (vs := [(.slice A n c), (.slice none 0 0)]) (cap := []) (fun w hw => tag_f xs A n c [] none 0 0 w (hok_cons ((src_rd 5 rfl) w hw) (hok_cons ((src_nil 1) w hw) (hok_cons (all_nil w) (hok_nil w)))) (by first | assumption | omega | (simp; done) | (simp; omega)) (by first | omega | (simp; done) | (simp; omega) | (simp [*]; done) | (simp [*]; omega)) (by first | omega | (simp; done) | (simp; omega) | (simp [*]; done) | (simp [*]; omega)) (by first | omega | (simp; done) | (simp; omega) | (simp [*]; done) | (simp [*]; omega)) (by first | assumption | omega | (simp only [catp_cons, catp_nil, List.append_nil, List.length_append]; omega) | (simp [catp_cons, catp_nil]; done) | (simp [catp_cons, catp_nil]; omega))) (enters_of Try.func27 (by kernel_rfl) rfl) rfl rfl rfl rfl rfl (fun t230 q231 => ?_))
              refine T_slot 44 (.agg ((mactag xs (catp [])).map b8).toArray) (.agg ((mactag xs []).map b8).toArray) rfl (rfl) ?_
              refine D_on [5, 6] rfl ?_
              refine D_one 22 _ rfl (by kernel_rfl) rfl (op_call0 (vs := [(.slice A n c), (.slice (some ⟨g229, 0, none⟩) 2 2)]) (cap := []) (fun w hw => tag_f xs A n c ([(Pt.mk none 0 0 []), (Pt.mk none 0 0 [])]) (some ⟨g229, 0, none⟩) 2 2 w (hok_cons ((src_rd 5 rfl) w hw) (hok_cons ((src_full (z := 1) 0 rfl rfl (by first | omega | (simp; done) | (simp; omega) | (simp [*]; done) | (simp [*]; omega)) (by first | omega | (simp; done) | (simp; omega) | (simp [*]; done) | (simp [*]; omega))) w hw) (hok_cons (all_cons ((src_nil 1) w hw) (all_cons ((src_nil 1) w hw) (all_nil w))) (hok_nil w)))) (by first | assumption | omega | (simp; done) | (simp; omega)) (by first | omega | (simp; done) | (simp; omega) | (simp [*]; done) | (simp [*]; omega)) (by first | omega | (simp; done) | (simp; omega) | (simp [*]; done) | (simp [*]; omega)) (by first | omega | (simp; done) | (simp; omega) | (simp [*]; done) | (simp [*]; omega)) (by first | assumption | omega | (simp only [catp_cons, catp_nil, List.append_nil, List.length_append]; omega) | (simp [catp_cons, catp_nil]; done) | (simp [catp_cons, catp_nil]; omega))) (enters_of Try.func27 (by kernel_rfl) rfl) rfl rfl rfl rfl rfl (fun t232 q233 => ?_))
              refine T_slot 47 (.agg ((mactag xs (catp ([(Pt.mk none 0 0 []), (Pt.mk none 0 0 [])]))).map b8).toArray) (.agg ((mactag xs []).map b8).toArray) rfl (by simp [catp]) ?_
              refine D_on [5, 6] rfl ?_
              refine D_pure (i := 23) [5, 6] rfl (by kernel_rfl) rfl (pr_eqagg (bo := .eql) (c := ((mactag xs []) == (mactag xs []))) (r := ((mactag xs []) == (mactag xs []))) (eqb8 (xs := (mactag xs [])) (ys := (mactag xs [])) Try.underlying26 Try.underlying5 (by kernel_rfl) (by first | omega | (simp; done) | (simp; omega) | (simp [*]; done) | (simp [*]; omega)) (by first | omega | (simp; done) | (simp; omega) | (simp [*]; done) | (simp [*]; omega))) (by kernel_rfl) rfl rfl rfl rfl rfl) (.inr rfl) rfl rfl ?_
              refine D_pure (i := 24) [5, 6] rfl (by kernel_rfl) rfl (pr_pick_t rfl rfl rfl) (.inr rfl) rfl rfl ?_
              refine D_pure (i := 25) [5, 6] rfl (by kernel_rfl) rfl (pr_move rfl rfl) (.inr rfl) rfl rfl ?_
              refine T_slot 48 (.bool ((mactag xs []) == (mactag xs []))) (.bool true) rfl (congrArg _ (by simp)) ?_
              refine T_slot 49 (.bool ((mactag xs []) == (mactag xs []))) (.bool true) rfl (congrArg _ (by simp)) ?_
              refine T_slot 50 (.bool ((mactag xs []) == (mactag xs []))) (.bool true) rfl (congrArg _ (by simp)) ?_
              refine D_pure (i := 26) [5, 6] rfl (by kernel_rfl) rfl (pr_move rfl rfl) (.inr rfl) rfl rfl ?_
              refine D_pure (i := 27) [5, 6] rfl (by kernel_rfl) rfl (pr_move rfl rfl) (.inr rfl) rfl rfl ?_
              refine D_pure (i := 30) [5, 6] rfl (by kernel_rfl) rfl (pr_move rfl rfl) (.inr rfl) rfl rfl ?_
              refine D_pure (i := 31) [5, 6] rfl (by kernel_rfl) rfl (pr_move rfl rfl) (.inr rfl) rfl rfl ?_
              refine D_one 28 _ rfl (by kernel_rfl) rfl (op_bslice (e := 24) (zs := [(.slice A n c)]) (qs := [(0, (.slice A n c))]) (fun _ => by kernel_rfl) rfl rfl rfl rfl (fun g234 => ?_))
              refine D_on [6, 7] rfl ?_
              refine D_one 29 _ rfl (by kernel_rfl) rfl (op_call0 (vs := [(.slice B nb d), (.slice (some ⟨g234, 0, none⟩) 1 1)]) (cap := []) (fun w hw => tag_f bs B nb d [(Pt.mk A n c xs)] (some ⟨g234, 0, none⟩) 1 1 w (hok_cons ((src_rd 7 rfl) w hw) (hok_cons ((src_full (z := 1) 0 rfl rfl (by first | omega | (simp; done) | (simp; omega) | (simp [*]; done) | (simp [*]; omega)) (by first | omega | (simp; done) | (simp; omega) | (simp [*]; done) | (simp [*]; omega))) w hw) (hok_cons (all_cons ((src_rd 6 rfl) w hw) (all_nil w)) (hok_nil w)))) (by first | assumption | omega | (simp; done) | (simp; omega)) (by first | omega | (simp; done) | (simp; omega) | (simp [*]; done) | (simp [*]; omega)) (by first | omega | (simp; done) | (simp; omega) | (simp [*]; done) | (simp [*]; omega)) (by first | omega | (simp; done) | (simp; omega) | (simp [*]; done) | (simp [*]; omega)) (by first | assumption | omega | (simp only [catp_cons, catp_nil, List.append_nil, List.length_append]; omega) | (simp [catp_cons, catp_nil]; done) | (simp [catp_cons, catp_nil]; omega))) (enters_of Try.func27 (by kernel_rfl) rfl) rfl rfl rfl rfl rfl (fun t235 q236 => ?_))
              refine T_slot 54 (.agg ((mactag bs (catp [(Pt.mk A n c xs)])).map b8).toArray) (.agg ((mactag bs xs).map b8).toArray) rfl (by rw [catp_one]) ?_
              refine D_on [6, 7] rfl ?_
              refine D_one 32 _ rfl (by kernel_rfl) rfl (op_call0 (vs := [(.slice B nb d), (.slice A n c)]) (cap := []) (fun w hw => rtag_f bs B nb d xs A n c w (hok_cons ((src_rd 7 rfl) w hw) (hok_cons ((src_rd 6 rfl) w hw) (hok_nil w))) (by first | assumption | omega | (simp; done) | (simp; omega)) (by first | omega | (simp; done) | (simp; omega) | (simp [*]; done) | (simp [*]; omega)) (by first | assumption | omega | (simp; done) | (simp; omega)) (by first | omega | (simp; done) | (simp; omega) | (simp [*]; done) | (simp [*]; omega))) (enters_of Try.func28 (by kernel_rfl) rfl) rfl rfl rfl rfl rfl (fun t237 q238 => ?_))
              refine D_on [6, 7] rfl ?_
              refine D_pure (i := 33) [6, 7] rfl (by kernel_rfl) rfl (pr_eqagg (bo := .eql) (c := ((mactag bs xs) == (mactag bs xs))) (r := ((mactag bs xs) == (mactag bs xs))) (eqb8 (xs := (mactag bs xs)) (ys := (mactag bs xs)) Try.underlying26 Try.underlying5 (by kernel_rfl) (by first | omega | (simp; done) | (simp; omega) | (simp [*]; done) | (simp [*]; omega)) (by first | omega | (simp; done) | (simp; omega) | (simp [*]; done) | (simp [*]; omega))) (by kernel_rfl) rfl rfl rfl rfl rfl) (.inr rfl) rfl rfl ?_
              refine D_pure (i := 34) [6, 7] rfl (by kernel_rfl) rfl (pr_pick_t rfl rfl rfl) (.inr rfl) rfl rfl ?_
              refine D_pure (i := 35) [6, 7] rfl (by kernel_rfl) rfl (pr_assign rfl rfl) (.inr rfl) rfl rfl ?_
              refine D_done (by kernel_rfl) ?_
              exact T_meet () trivial (sc rfl sn) [6, 7] ⟨by decide, rfl⟩
        · skip
          refine id (op_bslice (e := 24) (zs := [(.slice B nb d)]) (qs := [(0, (.slice B nb d))]) (fun _ => by kernel_rfl) rfl rfl rfl rfl (fun g239 => ?_))
          refine D_on [1, 2] rfl ?_
          refine D_all [5, 8] (by kernel_rfl) (by simp) ⟨⟨_, rfl, rfl, ?_⟩, ⟨_, rfl, rfl, ?_⟩, trivial⟩
          · skip
            refine id (op_slice_rd (l := 0) (u := kk) 2 rfl (by first | omega | (simp; done) | (simp; omega) | (simp [*]; done) | (simp [*]; omega)) (by first | omega | (simp; done) | (simp; omega) | (simp [*]; done) | (simp [*]; omega)) Try.underlying24 (by kernel_rfl) rfl rfl rfl ⟨_, rfl⟩ rfl rfl (fun B240 => ?_))
            refine T_as 0 _ (.rd B240 1 kk d ((List.take kk bs).map b8)) rfl (by congr 1; simp [List.map_take, List.map_drop] <;> omega) ?_
            refine T_slot 30 _ (.slice B240 kk d) rfl (by congr 1) ?_
            refine D_on [2, 3] rfl ?_
            refine D_one 8 _ rfl (by kernel_rfl) rfl (op_slice_rd (l := kk) (u := nb) 3 rfl (by first | omega | (simp; done) | (simp; omega) | (simp [*]; done) | (simp [*]; omega)) (by first | omega | (simp; done) | (simp; omega) | (simp [*]; done) | (simp [*]; omega)) Try.underlying24 (by kernel_rfl) rfl rfl ⟨_, rfl⟩ rfl rfl rfl (fun B241 => ?_))
            refine T_as 0 _ (.rd B241 1 (nb - kk) (d - kk) ((List.drop kk bs).map b8)) rfl (by congr 1; first | rfl | (rw [List.take_of_length_le (by simp; omega)]; simp)) ?_
            refine D_on [3, 4] rfl ?_
            refine D_one 9 _ rfl (by kernel_rfl) rfl (op_bslice (e := 24) (zs := [(.slice B240 kk d), (.slice B241 (nb - kk) (d - kk))]) (qs := [(0, (.slice B240 kk d)), (1, (.slice B241 (nb - kk) (d - kk)))]) (fun _ => by kernel_rfl) rfl rfl rfl rfl (fun g242 => ?_))
            refine D_on [4, 5] rfl ?_
            refine D_one 10 _ rfl (by kernel_rfl) rfl (op_call0 (vs := [(.slice A n c), (.slice (some ⟨g242, 0, none⟩) 2 2)]) (cap := []) (fun w hw => tag_f xs A n c [(Pt.mk B240 kk d (List.take kk bs)), (Pt.mk B241 (nb - kk) (d - kk) (List.drop kk bs))] (some ⟨g242, 0, none⟩) 2 2 w (hok_cons ((src_rd 4 rfl) w hw) (hok_cons ((src_full (z := 1) 0 rfl rfl (by first | omega | (simp; done) | (simp; omega) | (simp [*]; done) | (simp [*]; omega)) (by first | omega | (simp; done) | (simp; omega) | (simp [*]; done) | (simp [*]; omega))) w hw) (hok_cons (all_cons ((src_rd 2 rfl) w hw) (all_cons ((src_rd 1 rfl) w hw) (all_nil w))) (hok_nil w)))) (by first | assumption | omega | (simp; done) | (simp; omega)) (by first | omega | (simp; done) | (simp; omega) | (simp [*]; done) | (simp [*]; omega)) (by first | omega | (simp; done) | (simp; omega) | (simp [*]; done) | (simp [*]; omega)) (by first | omega | (simp; done) | (simp; omega) | (simp [*]; done) | (simp [*]; omega)) (by first | assumption | omega | (simp only [catp_cons, catp_nil, List.append_nil, List.length_append]; omega) | (simp [catp_cons, catp_nil]; done) | (simp [catp_cons, catp_nil]; omega))) (enters_of Try.func27 (by kernel_rfl) rfl) rfl rfl rfl rfl rfl (fun t243 q244 => ?_))
            refine T_slot 35 (.agg ((mactag xs (catp [(Pt.mk B240 kk d (List.take kk bs)), (Pt.mk B241 (nb - kk) (d - kk) (List.drop kk bs))])).map b8).toArray) (.agg ((mactag xs bs).map b8).toArray) rfl (by rw [catp_two]) ?_
            refine D_on [4, 5] rfl ?_
            refine D_one 14 _ rfl (by kernel_rfl) rfl (op_call0 (vs := [(.slice A n c), (.slice (some ⟨g239, 0, none⟩) 1 1)]) (cap := []) (fun w hw => tag_f xs A n c [(Pt.mk B nb d bs)] (some ⟨g239, 0, none⟩) 1 1 w (hok_cons ((src_rd 4 rfl) w hw) (hok_cons ((src_full (z := 1) 3 rfl rfl (by first | omega | (simp; done) | (simp; omega) | (simp [*]; done) | (simp [*]; omega)) (by first | omega | (simp; done) | (simp; omega) | (simp [*]; done) | (simp [*]; omega))) w hw) (hok_cons (all_cons ((src_rd 5 rfl) w hw) (all_nil w)) (hok_nil w)))) (by first | assumption | omega | (simp; done) | (simp; omega)) (by first | omega | (simp; done) | (simp; omega) | (simp [*]; done) | (simp [*]; omega)) (by first | omega | (simp; done) | (simp; omega) | (simp [*]; done) | (simp [*]; omega)) (by first | omega | (simp; done) | (simp; omega) | (simp [*]; done) | (simp [*]; omega)) (by first | assumption | omega | (simp only [catp_cons, catp_nil, List.append_nil, List.length_append]; omega) | (simp [catp_cons, catp_nil]; done) | (simp [catp_cons, catp_nil]; omega))) (enters_of Try.func27 (by kernel_rfl) rfl) rfl rfl rfl rfl rfl (fun t245 q246 => ?_))
            refine T_slot 39 (.agg ((mactag xs (catp [(Pt.mk B nb d bs)])).map b8).toArray) (.agg ((mactag xs bs).map b8).toArray) rfl (by rw [catp_one]) ?_
            refine D_on [4, 5] rfl ?_
            refine D_pure (i := 15) [4, 5] rfl (by kernel_rfl) rfl (pr_eqagg (bo := .eql) (c := ((mactag xs bs) == (mactag xs bs))) (r := ((mactag xs bs) == (mactag xs bs))) (eqb8 (xs := (mactag xs bs)) (ys := (mactag xs bs)) Try.underlying26 Try.underlying5 (by kernel_rfl) (by first | omega | (simp; done) | (simp; omega) | (simp [*]; done) | (simp [*]; omega)) (by first | omega | (simp; done) | (simp; omega) | (simp [*]; done) | (simp [*]; omega))) (by kernel_rfl) rfl rfl rfl rfl rfl) (.inr rfl) rfl rfl ?_
            refine D_pure (i := 16) [4, 5] rfl (by kernel_rfl) rfl (pr_pick_t rfl rfl rfl) (.inr rfl) rfl rfl ?_
            refine D_pure (i := 17) [4, 5] rfl (by kernel_rfl) rfl (pr_move rfl rfl) (.inr rfl) rfl rfl ?_
            refine T_slot 40 (.bool ((mactag xs bs) == (mactag xs bs))) (.bool true) rfl (congrArg _ (by simp)) ?_
            refine T_slot 41 (.bool ((mactag xs bs) == (mactag xs bs))) (.bool true) rfl (congrArg _ (by simp)) ?_
            refine T_slot 42 (.bool ((mactag xs bs) == (mactag xs bs))) (.bool true) rfl (congrArg _ (by simp)) ?_
            refine D_pure (i := 18) [4, 5] rfl (by kernel_rfl) rfl (pr_move rfl rfl) (.inr rfl) rfl rfl ?_
            refine D_pure (i := 20) [4, 5] rfl (by kernel_rfl) rfl (pr_move rfl rfl) (.inr rfl) rfl rfl ?_
            refine D_all [19, 21] (by kernel_rfl) (by simp) ⟨⟨_, rfl, rfl, ?_⟩, ⟨_, rfl, rfl, ?_⟩, trivial⟩
            · skip
              refine id (op_call0 (vs := [(.slice A n c), (.slice none 0 0)]) (cap := []) (fun w hw => tag_f xs A n c [] none 0 0 w (hok_cons ((src_rd 4 rfl) w hw) (hok_cons ((src_nil 1) w hw) (hok_cons (all_nil w) (hok_nil w)))) (by first | assumption | omega | (simp; done) | (simp; omega)) (by first | omega | (simp; done) | (simp; omega) | (simp [*]; done) | (simp [*]; omega)) (by first | omega | (simp; done) | (simp; omega) | (simp [*]; done) | (simp [*]; omega)) (by first | omega | (simp; done) | (simp; omega) | (simp [*]; done) | (simp [*]; omega)) (by first | assumption | omega | (simp only [catp_cons, catp_nil, List.append_nil, List.length_append]; omega) | (simp [catp_cons, catp_nil]; done) | (simp [catp_cons, catp_nil]; omega))) (enters_of Try.func27 (by kernel_rfl) rfl) rfl rfl rfl rfl rfl (fun t247 q248 => ?_))
              refine T_slot 44 (.agg ((mactag xs (catp [])).map b8).toArray) (.agg ((mactag xs []).map b8).toArray) rfl (rfl) ?_
              refine D_on [4, 5] rfl ?_
              refine D_one 21 _ rfl (by kernel_rfl) rfl (op_bslice (e := 24) (zs := [(.slice none 0 0), (.slice none 0 0)]) (qs := [(0, (.slice none 0 0)), (1, (.slice none 0 0))]) (fun _ => by kernel_rfl) rfl rfl rfl rfl (fun g249 => ?_))
              refine D_on [5, 6] rfl ?_
              refine D_one 22 _ rfl (by kernel_rfl) rfl (op_call0 (vs := [(.slice A n c), (.slice (some ⟨g249, 0, none⟩) 2 2)]) (cap := []) (fun w hw => tag_f xs A n c ([(Pt.mk none 0 0 []), (Pt.mk none 0 0 [])]) (some ⟨g249, 0, none⟩) 2 2 w (hok_cons ((src_rd 5 rfl) w hw) (hok_cons ((src_full (z := 1) 0 rfl rfl (by first | omega | (simp; done) | (simp; omega) | (simp [*]; done) | (simp [*]; omega)) (by first | omega | (simp; done) | (simp; omega) | (simp [*]; done) | (simp [*]; omega))) w hw) (hok_cons (all_cons ((src_nil 1) w hw) (all_cons ((src_nil 1) w hw) (all_nil w))) (hok_nil w)))) (by first | assumption | omega | (simp; done) | (simp; omega)) (by first | omega | (simp; done) | (simp; omega) | (simp [*]; done) | (simp [*]; omega)) (by first | omega | (simp; done) | (simp; omega) | (simp [*]; done) | (simp [*]; omega)) (by first | omega | (simp; done) | (simp; omega) | (simp [*]; done) | (simp [*]; omega)) (by first | assumption | omega | (simp only [catp_cons, catp_nil, List.append_nil, List.length_append]; omega) | (simp [catp_cons, catp_nil]; done) | (simp [catp_cons, catp_nil]; omega))) (enters_of Try.func27 (by kernel_rfl) rfl) rfl rfl rfl rfl rfl (fun t250 q251 => ?_))
              refine T_slot 47 (.agg ((mactag xs (catp ([(Pt.mk none 0 0 []), (Pt.mk none 0 0 [])]))).map b8).toArray) (.agg ((mactag xs []).map b8).toArray) rfl (by simp [catp]) ?_
              refine D_on [5, 6] rfl ?_
              refine D_pure (i := 23) [5, 6] rfl (by kernel_rfl) rfl (pr_eqagg (bo := .eql) (c := ((mactag xs []) == (mactag xs []))) (r := ((mactag xs []) == (mactag xs []))) (eqb8 (xs := (mactag xs [])) (ys := (mactag xs [])) Try.underlying26 Try.underlying5 (by kernel_rfl) (by first | omega | (simp; done) | (simp; omega) | (simp [*]; done) | (simp [*]; omega)) (by first | omega | (simp; done) | (simp; omega) | (simp [*]; done) | (simp [*]; omega))) (by kernel_rfl) rfl rfl rfl rfl rfl) (.inr rfl) rfl rfl ?_
              refine D_pure (i := 24) [5, 6] rfl (by kernel_rfl) rfl (pr_pick_t rfl rfl rfl) (.inr rfl) rfl rfl ?_
              refine D_pure (i := 25) [5, 6] rfl (by kernel_rfl) rfl (pr_move rfl rfl) (.inr rfl) rfl rfl ?_
              refine T_slot 48 (.bool ((mactag xs []) == (mactag xs []))) (.bool true) rfl (congrArg _ (by simp)) ?_
              refine T_slot 49 (.bool ((mactag xs []) == (mactag xs []))) (.bool true) rfl (congrArg _ (by simp)) ?_
              refine T_slot 50 (.bool ((mactag xs []) == (mactag xs []))) (.bool true) rfl (congrArg _ (by simp)) ?_
              refine D_pure (i := 26) [5, 6] rfl (by kernel_rfl) rfl (pr_move rfl rfl) (.inr rfl) rfl rfl ?_
              refine D_pure (i := 27) [5, 6] rfl (by kernel_rfl) rfl (pr_move rfl rfl) (.inr rfl) rfl rfl ?_
              refine D_pure (i := 30) [5, 6] rfl (by kernel_rfl) rfl (pr_move rfl rfl) (.inr rfl) rfl rfl ?_
              refine D_pure (i := 31) [5, 6] rfl (by kernel_rfl) rfl (pr_move rfl rfl) (.inr rfl) rfl rfl ?_
              refine D_one 28 _ rfl (by kernel_rfl) rfl (op_bslice (e := 24) (zs := [(.slice A n c)]) (qs := [(0, (.slice A n c))]) (fun _ => by kernel_rfl) rfl rfl rfl rfl (fun g252 => ?_))
              refine D_on [6, 7] rfl ?_
              refine D_one 29 _ rfl (by kernel_rfl) rfl (op_call0 (vs := [(.slice B nb d), (.slice (some ⟨g252, 0, none⟩) 1 1)]) (cap := []) (fun w hw => tag_f bs B nb d [(Pt.mk A n c xs)] (some ⟨g252, 0, none⟩) 1 1 w (hok_cons ((src_rd 7 rfl) w hw) (hok_cons ((src_full (z := 1) 0 rfl rfl (by first | omega | (simp; done) | (simp; omega) | (simp [*]; done) | (simp [*]; omega)) (by first | omega | (simp; done) | (simp; omega) | (simp [*]; done) | (simp [*]; omega))) w hw) (hok_cons (all_cons ((src_rd 6 rfl) w hw) (all_nil w)) (hok_nil w)))) (by first | assumption | omega | (simp; done) | (simp; omega)) (by first | omega | (simp; done) | (simp; omega) | (simp [*]; done) | (simp [*]; omega)) (by first | omega | (simp; done) | (simp; omega) | (simp [*]; done) | (simp [*]; omega)) (by first | omega | (simp; done) | (simp; omega) | (simp [*]; done) | (simp [*]; omega)) (by first | assumption | omega | (simp only [catp_cons, catp_nil, List.append_nil, List.length_append]; omega) | (simp [catp_cons, catp_nil]; done) | (simp [catp_cons, catp_nil]; omega))) (enters_of Try.func27 (by kernel_rfl) rfl) rfl rfl rfl rfl rfl (fun t253 q254 => ?_))
              refine T_slot 54 (.agg ((mactag bs (catp [(Pt.mk A n c xs)])).map b8).toArray) (.agg ((mactag bs xs).map b8).toArray) rfl (by rw [catp_one]) ?_
              refine D_on [6, 7] rfl ?_
              refine D_one 32 _ rfl (by kernel_rfl) rfl (op_call0 (vs := [(.slice B nb d), (.slice A n c)]) (cap := []) (fun w hw => rtag_f bs B nb d xs A n c w (hok_cons ((src_rd 7 rfl) w hw) (hok_cons ((src_rd 6 rfl) w hw) (hok_nil w))) (by first | assumption | omega | (simp; done) | (simp; omega)) (by first | omega | (simp; done) | (simp; omega) | (simp [*]; done) | (simp [*]; omega)) (by first | assumption | omega | (simp; done) | (simp; omega)) (by first | omega | (simp; done) | (simp; omega) | (simp [*]; done) | (simp [*]; omega))) (enters_of Try.func28 (by kernel_rfl) rfl) rfl rfl rfl rfl rfl (fun t255 q256 => ?_))
              refine D_on [6, 7] rfl ?_
              refine D_pure (i := 33) [6, 7] rfl (by kernel_rfl) rfl (pr_eqagg (bo := .eql) (c := ((mactag bs xs) == (mactag bs xs))) (r := ((mactag bs xs) == (mactag bs xs))) (eqb8 (xs := (mactag bs xs)) (ys := (mactag bs xs)) Try.underlying26 Try.underlying5 (by kernel_rfl) (by first | omega | (simp; done) | (simp; omega) | (simp [*]; done) | (simp [*]; omega)) (by first | omega | (simp; done) | (simp; omega) | (simp [*]; done) | (simp [*]; omega))) (by kernel_rfl) rfl rfl rfl rfl rfl) (.inr rfl) rfl rfl ?_
              refine D_pure (i := 34) [6, 7] rfl (by kernel_rfl) rfl (pr_pick_t rfl rfl rfl) (.inr rfl) rfl rfl ?_
              refine D_pure (i := 35) [6, 7] rfl (by kernel_rfl) rfl (pr_assign rfl rfl) (.inr rfl) rfl rfl ?_
              refine D_done (by kernel_rfl) ?_
              exact T_meet () trivial (sc rfl sn) [6, 7] ⟨by decide, rfl⟩
            · skip
              refine id (op_bslice (e := 24) (zs := [(.slice none 0 0), (.slice none 0 0)]) (qs := [(0, (.slice none 0 0)), (1, (.slice none 0 0))]) (fun _ => by kernel_rfl) rfl rfl rfl rfl (fun g257 => ?_))
              refine D_on [5, 6] rfl ?_
              refine D_one 19 _ rfl (by kernel_rfl) rfl (op_call0 (vs := [(.slice A n c), (.slice none 0 0)]) (cap := []) (fun w hw => tag_f xs A n c [] none 0 0 w (hok_cons ((src_rd 5 rfl) w hw) (hok_cons ((src_nil 1) w hw) (hok_cons (all_nil w) (hok_nil w)))) (by first | assumption | omega | (simp; done) | (simp; omega)) (by first | omega | (simp; done) | (simp; omega) | (simp [*]; done) | (simp [*]; omega)) (by first | omega | (simp; done) | (simp; omega) | (simp [*]; done) | (simp [*]; omega)) (by first | omega | (simp; done) | (simp; omega) | (simp [*]; done) | (simp [*]; omega)) (by first | assumption | omega | (simp only [catp_cons, catp_nil, List.append_nil, List.length_append]; omega) | (simp [catp_cons, catp_nil]; done) | (simp [catp_cons, catp_nil]; omega))) (enters_of Try.func27 (by kernel_rfl) rfl) rfl rfl rfl rfl rfl (fun t258 q259 => ?_))
              refine T_slot 44 (.agg ((mactag xs (catp [])).map b8).toArray) (.agg ((mactag xs []).map b8).toArray) rfl (rfl) ?_
              refine D_on [5, 6] rfl ?_
              refine D_one 22 _ rfl (by kernel_rfl) rfl (op_call0 (vs := [(.slice A n c), (.slice (some ⟨g257, 0, none⟩) 2 2)]) (cap := []) (fun w hw => tag_f xs A n c ([(Pt.mk none 0 0 []), (Pt.mk none 0 0 [])]) (some ⟨g257, 0, none⟩) 2 2 w (hok_cons ((src_rd 5 rfl) w hw) (hok_cons ((src_full (z := 1) 0 rfl rfl (by first | omega | (simp; done) | (simp; omega) | (simp [*]; done) | (simp [*]; omega)) (by first | omega | (simp; done) | (simp; omega) | (simp [*]; done) | (simp [*]; omega))) w hw) (hok_cons (all_cons ((src_nil 1) w hw) (all_cons ((src_nil 1) w hw) (all_nil w))) (hok_nil w)))) (by first | assumption | omega | (simp; done) | (simp; omega)) (by first | omega | (simp; done) | (simp; omega) | (simp [*]; done) | (simp [*]; omega)) (by first | omega | (simp; done) | (simp; omega) | (simp [*]; done) | (simp [*]; omega)) (by first | omega | (simp; done) | (simp; omega) | (simp [*]; done) | (simp [*]; omega)) (by first | assumption | omega | (simp only [catp_cons, catp_nil, List.append_nil, List.length_append]; omega) | (simp [catp_cons, catp_nil]; done) | (simp [catp_cons, catp_nil]; omega))) (enters_of Try.func27 (by kernel_rfl) rfl) rfl rfl rfl rfl rfl (fun t260 q261 => ?_))
              refine T_slot 47 (.agg ((mactag xs (catp ([(Pt.mk none 0 0 []), (Pt.mk none 0 0 [])]))).map b8).toArray) (.agg ((mactag xs []).map b8).toArray) rfl (by simp [catp]) ?_
              refine D_on [5, 6] rfl ?_
              refine D_pure (i := 23) [5, 6] rfl (by kernel_rfl) rfl (pr_eqagg (bo := .eql) (c := ((mactag xs []) == (mactag xs []))) (r := ((mactag xs []) == (mactag xs []))) (eqb8 (xs := (mactag xs [])) (ys := (mactag xs [])) Try.underlying26 Try.underlying5 (by kernel_rfl) (by first | omega | (simp; done) | (simp; omega) | (simp [*]; done) | (simp [*]; omega)) (by first | omega | (simp; done) | (simp; omega) | (simp [*]; done) | (simp [*]; omega))) (by kernel_rfl) rfl rfl rfl rfl rfl) (.inr rfl) rfl rfl ?_
              refine D_pure (i := 24) [5, 6] rfl (by kernel_rfl) rfl (pr_pick_t rfl rfl rfl) (.inr rfl) rfl rfl ?_
              refine D_pure (i := 25) [5, 6] rfl (by kernel_rfl) rfl (pr_move rfl rfl) (.inr rfl) rfl rfl ?_
              refine T_slot 48 (.bool ((mactag xs []) == (mactag xs []))) (.bool true) rfl (congrArg _ (by simp)) ?_
              refine T_slot 49 (.bool ((mactag xs []) == (mactag xs []))) (.bool true) rfl (congrArg _ (by simp)) ?_
              refine T_slot 50 (.bool ((mactag xs []) == (mactag xs []))) (.bool true) rfl (congrArg _ (by simp)) ?_
              refine D_pure (i := 26) [5, 6] rfl (by kernel_rfl) rfl (pr_move rfl rfl) (.inr rfl) rfl rfl ?_
              refine D_pure (i := 27) [5, 6] rfl (by kernel_rfl) rfl (pr_move rfl rfl) (.inr rfl) rfl rfl ?_
              refine D_pure (i := 30) [5, 6] rfl (by kernel_rfl) rfl (pr_move rfl rfl) (.inr rfl) rfl rfl ?_
              refine D_pure (i := 31) [5, 6] rfl (by kernel_rfl) rfl (pr_move rfl rfl) (.inr rfl) rfl rfl ?_
              refine D_one 28 _ rfl (by kernel_rfl) rfl (op_bslice (e := 24) (zs := [(.slice A n c)]) (qs := [(0, (.slice A n c))]) (fun _ => by kernel_rfl) rfl rfl rfl rfl (fun g262 => ?_))
              refine D_on [6, 7] rfl ?_
              refine D_one 29 _ rfl (by kernel_rfl) rfl (op_call0 (vs := [(.slice B nb d), (.slice (some ⟨g262, 0, none⟩) 1 1)]) (cap := []) (fun w hw => tag_f bs B nb d [(Pt.mk A n c xs)] (some ⟨g262, 0, none⟩) 1 1 w (hok_cons ((src_rd 7 rfl) w hw) (hok_cons ((src_full (z := 1) 0 rfl rfl (by first | omega | (simp; done) | (simp; omega) | (simp [*]; done) | (simp [*]; omega)) (by first | omega | (simp; done) | (simp; omega) | (simp [*]; done) | (simp [*]; omega))) w hw) (hok_cons (all_cons ((src_rd 6 rfl) w hw) (all_nil w)) (hok_nil w)))) (by first | assumption | omega | (simp; done) | (simp; omega)) (by first | omega | (simp; done) | (simp; omega) | (simp [*]; done) | (simp [*]; omega)) (by first | omega | (simp; done) | (simp; omega) | (simp [*]; done) | (simp [*]; omega)) (by first | omega | (simp; done) | (simp; omega) | (simp [*]; done) | (simp [*]; omega)) (by first | assumption | omega | (simp only [catp_cons, catp_nil, List.append_nil, List.length_append]; omega) | (simp [catp_cons, catp_nil]; done) | (simp [catp_cons, catp_nil]; omega))) (enters_of Try.func27 (by kernel_rfl) rfl) rfl rfl rfl rfl rfl (fun t263 q264 => ?_))
              refine T_slot 54 (.agg ((mactag bs (catp [(Pt.mk A n c xs)])).map b8).toArray) (.agg ((mactag bs xs).map b8).toArray) rfl (by rw [catp_one]) ?_
              refine D_on [6, 7] rfl ?_
              refine D_one 32 _ rfl (by kernel_rfl) rfl (op_call0 (vs := [(.slice B nb d), (.slice A n c)]) (cap := []) (fun w hw => rtag_f bs B nb d xs A n c w (hok_cons ((src_rd 7 rfl) w hw) (hok_cons ((src_rd 6 rfl) w hw) (hok_nil w))) (by first | assumption | omega | (simp; done) | (simp; omega)) (by first | omega | (simp; done) | (simp; omega) | (simp [*]; done) | (simp [*]; omega)) (by first | assumption | omega | (simp; done) | (simp; omega)) (by first | omega | (simp; done) | (simp; omega) | (simp [*]; done) | (simp [*]; omega))) (enters_of Try.func28 (by kernel_rfl) rfl) rfl rfl rfl rfl rfl (fun t265 q266 => ?_))
              refine D_on [6, 7] rfl ?_
              refine D_pure (i := 33) [6, 7] rfl (by kernel_rfl) rfl (pr_eqagg (bo := .eql) (c := ((mactag bs xs) == (mactag bs xs))) (r := ((mactag bs xs) == (mactag bs xs))) (eqb8 (xs := (mactag bs xs)) (ys := (mactag bs xs)) Try.underlying26 Try.underlying5 (by kernel_rfl) (by first | omega | (simp; done) | (simp; omega) | (simp [*]; done) | (simp [*]; omega)) (by first | omega | (simp; done) | (simp; omega) | (simp [*]; done) | (simp [*]; omega))) (by kernel_rfl) rfl rfl rfl rfl rfl) (.inr rfl) rfl rfl ?_
              refine D_pure (i := 34) [6, 7] rfl (by kernel_rfl) rfl (pr_pick_t rfl rfl rfl) (.inr rfl) rfl rfl ?_
              refine D_pure (i := 35) [6, 7] rfl (by kernel_rfl) rfl (pr_assign rfl rfl) (.inr rfl) rfl rfl ?_
              refine D_done (by kernel_rfl) ?_
              exact T_meet () trivial (sc rfl sn) [6, 7] ⟨by decide, rfl⟩
          · skip
            refine id (op_slice_rd (l := kk) (u := nb) 2 rfl (by first | omega | (simp; done) | (simp; omega) | (simp [*]; done) | (simp [*]; omega)) (by first | omega | (simp; done) | (simp; omega) | (simp [*]; done) | (simp [*]; omega)) Try.underlying24 (by kernel_rfl) rfl rfl ⟨_, rfl⟩ rfl rfl rfl (fun B267 => ?_))
            refine T_as 0 _ (.rd B267 1 (nb - kk) (d - kk) ((List.drop kk bs).map b8)) rfl (by congr 1; first | rfl | (rw [List.take_of_length_le (by simp; omega)]; simp)) ?_
            refine D_on [2, 3] rfl ?_
            refine D_one 5 _ rfl (by kernel_rfl) rfl (op_slice_rd (l := 0) (u := kk) 3 rfl (by first | omega | (simp; done) | (simp; omega) | (simp [*]; done) | (simp [*]; omega)) (by first | omega | (simp; done) | (simp; omega) | (simp [*]; done) | (simp [*]; omega)) Try.underlying24 (by kernel_rfl) rfl rfl rfl ⟨_, rfl⟩ rfl rfl (fun B268 => ?_))
            refine T_as 0 _ (.rd B268 1 kk d ((List.take kk bs).map b8)) rfl (by congr 1; simp [List.map_take, List.map_drop] <;> omega) ?_
            refine T_slot 30 _ (.slice B268 kk d) rfl (by congr 1) ?_
            refine D_on [3, 4] rfl ?_
            refine D_one 9 _ rfl (by kernel_rfl) rfl (op_bslice (e := 24) (zs := [(.slice B268 kk d), (.slice B267 (nb - kk) (d - kk))]) (qs := [(0, (.slice B268 kk d)), (1, (.slice B267 (nb - kk) (d - kk)))]) (fun _ => by kernel_rfl) rfl rfl rfl rfl (fun g269 => ?_))
            refine D_on [4, 5] rfl ?_
            refine D_one 10 _ rfl (by kernel_rfl) rfl (op_call0 (vs := [(.slice A n c), (.slice (some ⟨g269, 0, none⟩) 2 2)]) (cap := []) (fun w hw => tag_f xs A n c [(Pt.mk B268 kk d (List.take kk bs)), (Pt.mk B267 (nb - kk) (d - kk) (List.drop kk bs))] (some ⟨g269, 0, none⟩) 2 2 w (hok_cons ((src_rd 4 rfl) w hw) (hok_cons ((src_full (z := 1) 0 rfl rfl (by first | omega | (simp; done) | (simp; omega) | (simp [*]; done) | (simp [*]; omega)) (by first | omega | (simp; done) | (simp; omega) | (simp [*]; done) | (simp [*]; omega))) w hw) (hok_cons (all_cons ((src_rd 1 rfl) w hw) (all_cons ((src_rd 2 rfl) w hw) (all_nil w))) (hok_nil w)))) (by first | assumption | omega | (simp; done) | (simp; omega)) (by first | omega | (simp; done) | (simp; omega) | (simp [*]; done) | (simp [*]; omega)) (by first | omega | (simp; done) | (simp; omega) | (simp [*]; done) | (simp [*]; omega)) (by first | omega | (simp; done) | (simp; omega) | (simp [*]; done) | (simp [*]; omega)) (by first | assumption | omega | (simp only [catp_cons, catp_nil, List.append_nil, List.length_append]; omega) | (simp [catp_cons, catp_nil]; done) | (simp [catp_cons, catp_nil]; omega))) (enters_of Try.func27 (by kernel_rfl) rfl) rfl rfl rfl rfl rfl (fun t270 q271 => ?_))
            refine T_slot 35 (.agg ((mactag xs (catp [(Pt.mk B268 kk d (List.take kk bs)), (Pt.mk B267 (nb - kk) (d - kk) (List.drop kk bs))])).map b8).toArray) (.agg ((mactag xs bs).map b8).toArray) rfl (by rw [catp_two]) ?_
            refine D_on [4, 5] rfl ?_
            refine D_one 14 _ rfl (by kernel_rfl) rfl (op_call0 (vs := [(.slice A n c), (.slice (some ⟨g239, 0, none⟩) 1 1)]) (cap := []) (fun w hw => tag_f xs A n c [(Pt.mk B nb d bs)] (some ⟨g239, 0, none⟩) 1 1 w (hok_cons ((src_rd 4 rfl) w hw) (hok_cons ((src_full (z := 1) 3 rfl rfl (by first | omega | (simp; done) | (simp; omega) | (simp [*]; done) | (simp [*]; omega)) (by first | omega | (simp; done) | (simp; omega) | (simp [*]; done) | (simp [*]; omega))) w hw) (hok_cons (all_cons ((src_rd 5 rfl) w hw) (all_nil w)) (hok_nil w)))) (by first | assumption | omega | (simp; done) | (simp; omega)) (by first | omega | (simp; done) | (simp; omega) | (simp [*]; done) | (simp [*]; omega)) (by first | omega | (simp; done) | (simp; omega) | (simp [*]; done) | (simp [*]; omega)) (by first | omega | (simp; done) | (simp; omega) | (simp [*]; done) | (simp [*]; omega)) (by first | assumption | omega | (simp only [catp_cons, catp_nil, List.append_nil, List.length_append]; omega) | (simp [catp_cons, catp_nil]; done) | (simp [catp_cons, catp_nil]; omega))) (enters_of Try.func27 (by kernel_rfl) rfl) rfl rfl rfl rfl rfl (fun t272 q273 => ?_))
            refine T_slot 39 (.agg ((mactag xs (catp [(Pt.mk B nb d bs)])).map b8).toArray) (.agg ((mactag xs bs).map b8).toArray) rfl (by rw [catp_one]) ?_
            refine D_on [4, 5] rfl ?_
            refine D_pure (i := 15) [4, 5] rfl (by kernel_rfl) rfl (pr_eqagg (bo := .eql) (c := ((mactag xs bs) == (mactag xs bs))) (r := ((mactag xs bs) == (mactag xs bs))) (eqb8 (xs := (mactag xs bs)) (ys := (mactag xs bs)) Try.underlying26 Try.underlying5 (by kernel_rfl) (by first | omega | (simp; done) | (simp; omega) | (simp [*]; done) | (simp [*]; omega)) (by first | omega | (simp; done) | (simp; omega) | (simp [*]; done) | (simp [*]; omega))) (by kernel_rfl) rfl rfl rfl rfl rfl) (.inr rfl) rfl rfl ?_
            refine D_pure (i := 16) [4, 5] rfl (by kernel_rfl) rfl (pr_pick_t rfl rfl rfl) (.inr rfl) rfl rfl ?_
            refine D_pure (i := 17) [4, 5] rfl (by kernel_rfl) rfl (pr_move rfl rfl) (.inr rfl) rfl rfl ?_
            refine T_slot 40 (.bool ((mactag xs bs) == (mactag xs bs))) (.bool true) rfl (congrArg _ (by simp)) ?_
            refine T_slot 41 (.bool ((mactag xs bs) == (mactag xs bs))) (.bool true) rfl (congrArg _ (by simp)) ?_
            refine T_slot 42 (.bool ((mactag xs bs) == (mactag xs bs))) (.bool true) rfl (congrArg _ (by simp)) ?_
            refine D_pure (i := 18) [4, 5] rfl (by kernel_rfl) rfl (pr_move rfl rfl) (.inr rfl) rfl rfl ?_
            refine D_pure (i := 20) [4, 5] rfl (by kernel_rfl) rfl (pr_move rfl rfl) (.inr rfl) rfl rfl ?_
            refine D_all [19, 21] (by kernel_rfl) (by simp) ⟨⟨_, rfl, rfl, ?_⟩, ⟨_, rfl, rfl, ?_⟩, trivial⟩
            · skip
              refine id (op_call0 (vs := [(.slice A n c), (.slice none 0 0)]) (cap := []) (fun w hw => tag_f xs A n c [] none 0 0 w (hok_cons ((src_rd 4 rfl) w hw) (hok_cons ((src_nil 1) w hw) (hok_cons (all_nil w) (hok_nil w)))) (by first | assumption | omega | (simp; done) | (simp; omega)) (by first | omega | (simp; done) | (simp; omega) | (simp [*]; done) | (simp [*]; omega)) (by first | omega | (simp; done) | (simp; omega) | (simp [*]; done) | (simp [*]; omega)) (by first | omega | (simp; done) | (simp; omega) | (simp [*]; done) | (simp [*]; omega)) (by first | assumption | omega | (simp only [catp_cons, catp_nil, List.append_nil, List.length_append]; omega) | (simp [catp_cons, catp_nil]; done) | (simp [catp_cons, catp_nil]; omega))) (enters_of Try.func27 (by kernel_rfl) rfl) rfl rfl rfl rfl rfl (fun t274 q275 => ?_))
              refine T_slot 44 (.agg ((mactag xs (catp [])).map b8).toArray) (.agg ((mactag xs []).map b8).toArray) rfl (rfl) ?_
              refine D_on [4, 5] rfl ?_
              refine D_one 21 _ rfl (by kernel_rfl) rfl (op_bslice (e := 24) (zs := [(.slice none 0 0), (.slice none 0 0)]) (qs := [(0, (.slice none 0 0)), (1, (.slice none 0 0))]) (fun _ => by kernel_rfl) rfl rfl rfl rfl (fun g276 => ?_))
              refine D_on [5, 6] rfl ?_
              refine D_one 22 _ rfl (by kernel_rfl) rfl (op_call0 (vs := [(.slice A n c), (.slice (some ⟨g276, 0, none⟩) 2 2)]) (cap := []) (fun w hw => tag_f xs A n c ([(Pt.mk none 0 0 []), (Pt.mk none 0 0 [])]) (some ⟨g276, 0, none⟩) 2 2 w (hok_cons ((src_rd 5 rfl) w hw) (hok_cons ((src_full (z := 1) 0 rfl rfl (by first | omega | (simp; done) | (simp; omega) | (simp [*]; done) | (simp [*]; omega)) (by first | omega | (simp; done) | (simp; omega) | (simp [*]; done) | (simp [*]; omega))) w hw) (hok_cons (all_cons ((src_nil 1) w hw) (all_cons ((src_nil 1) w hw) (all_nil w))) (hok_nil w)))) (by first | assumption | omega | (simp; done) | (simp; omega)) (by first | omega | (simp; done) | (simp; omega) | (simp [*]; done) | (simp [*]; omega)) (by first | omega | (simp; done) | (simp; omega) | (simp [*]; done) | (simp [*]; omega)) (by first | omega | (simp; done) | (simp; omega) | (simp [*]; done) | (simp [*]; omega)) (by first | assumption | omega | (simp only [catp_cons, catp_nil, List.append_nil, List.length_append]; omega) | (simp [catp_cons, catp_nil]; done) | (simp [catp_cons, catp_nil]; omega))) (enters_of Try.func27 (by kernel_rfl) rfl) rfl rfl rfl rfl rfl (fun t277 q278 => ?_))
              refine T_slot 47 (.agg ((mactag xs (catp ([(Pt.mk none 0 0 []), (Pt.mk none 0 0 [])]))).map b8).toArray) (.agg ((mactag xs []).map b8).toArray) rfl (by simp [catp]) ?_
              refine D_on [5, 6] rfl ?_
              refine D_pure (i := 23) [5, 6] rfl (by kernel_rfl) rfl (pr_eqagg (bo := .eql) (c := ((mactag xs []) == (mactag xs []))) (r := ((mactag xs []) == (mactag xs []))) (eqb8 (xs := (mactag xs [])) (ys := (mactag xs [])) Try.underlying26 Try.underlying5 (by kernel_rfl) (by first | omega | (simp; done) | (simp; omega) | (simp [*]; done) | (simp [*]; omega)) (by first | omega | (simp; done) | (simp; omega) | (simp [*]; done) | (simp [*]; omega))) (by kernel_rfl) rfl rfl rfl rfl rfl) (.inr rfl) rfl rfl ?_
              refine D_pure (i := 24) [5, 6] rfl (by kernel_rfl) rfl (pr_pick_t rfl rfl rfl) (.inr rfl) rfl rfl ?_
              refine D_pure (i := 25) [5, 6] rfl (by kernel_rfl) rfl (pr_move rfl rfl) (.inr rfl) rfl rfl ?_
              refine T_slot 48 (.bool ((mactag xs []) == (mactag xs []))) (.bool true) rfl (congrArg _ (by simp)) ?_
              refine T_slot 49 (.bool ((mactag xs []) == (mactag xs []))) (.bool true) rfl (congrArg _ (by simp)) ?_
              refine T_slot 50 (.bool ((mactag xs []) == (mactag xs []))) (.bool true) rfl (congrArg _ (by simp)) ?_
              refine D_pure (i := 26) [5, 6] rfl (by kernel_rfl) rfl (pr_move rfl rfl) (.inr rfl) rfl rfl ?_
              refine D_pure (i := 27) [5, 6] rfl (by kernel_rfl) rfl (pr_move rfl rfl) (.inr rfl) rfl rfl ?_
              refine D_pure (i := 30) [5, 6] rfl (by kernel_rfl) rfl (pr_move rfl rfl) (.inr rfl) rfl rfl ?_
              refine D_pure (i := 31) [5, 6] rfl (by kernel_rfl) rfl (pr_move rfl rfl) (.inr rfl) rfl rfl ?_
              refine D_one 28 _ rfl (by kernel_rfl) rfl (op_bslice (e := 24) (zs := [(.slice A n c)]) (qs := [(0, (.slice A n c))]) (fun _ => by kernel_rfl) rfl rfl rfl rfl (fun g279 => ?_))
              refine D_on [6, 7] rfl ?_
              refine D_one 29 _ rfl (by kernel_rfl) rfl (op_call0 (vs := [(.slice B nb d), (.slice (some ⟨g279, 0, none⟩) 1 1)]) (cap := []) (fun w hw => tag_f bs B nb d [(Pt.mk A n c xs)] (some ⟨g279, 0, none⟩) 1 1 w (hok_cons ((src_rd 7 rfl) w hw) (hok_cons ((src_full (z := 1) 0 rfl rfl (by first | omega | (simp; done) | (simp; omega) | (simp [*]; done) | (simp [*]; omega)) (by first | omega | (simp; done) | (simp; omega) | (simp [*]; done) | (simp [*]; omega))) w hw) (hok_cons (all_cons ((src_rd 6 rfl) w hw) (all_nil w)) (hok_nil w)))) (by first | assumption | omega | (simp; done) | (simp; omega)) (by first | omega | (simp; done) | (simp; omega) | (simp [*]; done) | (simp [*]; omega)) (by first | omega | (simp; done) | (simp; omega) | (simp [*]; done) | (simp [*]; omega)) (by first | omega | (simp; done) | (simp; omega) | (simp [*]; done) | (simp [*]; omega)) (by first | assumption | omega | (simp only [catp_cons, catp_nil, List.append_nil, List.length_append]; omega) | (simp [catp_cons, catp_nil]; done) | (simp [catp_cons, catp_nil]; omega))) (enters_of Try.func27 (by kernel_rfl) rfl) rfl rfl rfl rfl rfl (fun t280 q281 => ?_))
              refine T_slot 54 (.agg ((mactag bs (catp [(Pt.mk A n c xs)])).map b8).toArray) (.agg ((mactag bs xs).map b8).toArray) rfl (by rw [catp_one]) ?_
              refine D_on [6, 7] rfl ?_
              refine D_one 32 _ rfl (by kernel_rfl) rfl (op_call0 (vs := [(.slice B nb d), (.slice A n c)]) (cap := []) (fun w hw => rtag_f bs B nb d xs A n c w (hok_cons ((src_rd 7 rfl) w hw) (hok_cons ((src_rd 6 rfl) w hw) (hok_nil w))) (by first | assumption | omega | (simp; done) | (simp; omega)) (by first | omega | (simp; done) | (simp; omega) | (simp [*]; done) | (simp [*]; omega)) (by first | assumption | omega | (simp; done) | (simp; omega)) (by first | omega | (simp; done) | (simp; omega) | (simp [*]; done) | (simp [*]; omega))) (enters_of Try.func28 (by kernel_rfl) rfl) rfl rfl rfl rfl rfl (fun t282 q283 => ?_))
              refine D_on [6, 7] rfl ?_
              refine D_pure (i := 33) [6, 7] rfl (by kernel_rfl) rfl (pr_eqagg (bo := .eql) (c := ((mactag bs xs) == (mactag bs xs))) (r := ((mactag bs xs) == (mactag bs xs))) (eqb8 (xs := (mactag bs xs)) (ys := (mactag bs xs)) Try.underlying26 Try.underlying5 (by kernel_rfl) (by first | omega | (simp; done) | (simp; omega) | (simp [*]; done) | (simp [*]; omega)) (by first | omega | (simp; done) | (simp; omega) | (simp [*]; done) | (simp [*]; omega))) (by kernel_rfl) rfl rfl rfl rfl rfl) (.inr rfl) rfl rfl ?_
              refine D_pure (i := 34) [6, 7] rfl (by kernel_rfl) rfl (pr_pick_t rfl rfl rfl) (.inr rfl) rfl rfl ?_
              refine D_pure (i := 35) [6, 7] rfl (by kernel_rfl) rfl (pr_assign rfl rfl) (.inr rfl) rfl rfl ?_
              refine D_done (by kernel_rfl) ?_
              exact T_meet () trivial (sc rfl sn) [6, 7] ⟨by decide, rfl⟩
            · skip
              refine id (op_bslice (e := 24) (zs := [(.slice none 0 0), (.slice none 0 0)]) (qs := [(0, (.slice none 0 0)), (1, (.slice none 0 0))]) (fun _ => by kernel_rfl) rfl rfl rfl rfl (fun g284 => ?_))
              refine D_on [5, 6] rfl ?_
              refine D_one 19 _ rfl (by kernel_rfl) rfl (op_call0 (vs := [(.slice A n c), (.slice none 0 0)]) (cap := []) (fun w hw => tag_f xs A n c [] none 0 0 w (hok_cons ((src_rd 5 rfl) w hw) (hok_cons ((src_nil 1) w hw) (hok_cons (all_nil w) (hok_nil w)))) (by first | assumption | omega | (simp; done) | (simp; omega)) (by first | omega | (simp; done) | (simp; omega) | (simp [*]; done) | (simp [*]; omega)) (by first | omega | (simp; done) | (simp; omega) | (simp [*]; done) | (simp [*]; omega)) (by first | omega | (simp; done) | (simp; omega) | (simp [*]; done) | (simp [*]; omega)) (by first | assumption | omega | (simp only [catp_cons, catp_nil, List.append_nil, List.length_append]; omega) | (simp [catp_cons, catp_nil]; done) | (simp [catp_cons, catp_nil]; omega))) (enters_of Try.func27 (by kernel_rfl) rfl) rfl rfl rfl rfl rfl (fun t285 q286 => ?_))
              refine T_slot 44 (.agg ((mactag xs (catp [])).map b8).toArray) (.agg ((mactag xs []).map b8).toArray) rfl (rfl) ?_
              refine D_on [5, 6] rfl ?_
              refine D_one 22 _ rfl (by kernel_rfl) rfl (op_call0 (vs := [(.slice A n c), (.slice (some ⟨g284, 0, none⟩) 2 2)]) (cap := []) (fun w hw => tag_f xs A n c ([(Pt.mk none 0 0 []), (Pt.mk none 0 0 [])]) (some ⟨g284, 0, none⟩) 2 2 w (hok_cons ((src_rd 5 rfl) w hw) (hok_cons ((src_full (z := 1) 0 rfl rfl (by first | omega | (simp; done) | (simp; omega) | (simp [*]; done) | (simp [*]; omega)) (by first | omega | (simp; done) | (simp; omega) | (simp [*]; done) | (simp [*]; omega))) w hw) (hok_cons (all_cons ((src_nil 1) w hw) (all_cons ((src_nil 1) w hw) (all_nil w))) (hok_nil w)))) (by first | assumption | omega | (simp; done) | (simp; omega)) (by first | omega | (simp; done) | (simp; omega) | (simp [*]; done) | (simp [*]; omega)) (by first | omega | (simp; done) | (simp; omega) | (simp [*]; done) | (simp [*]; omega)) (by first | omega | (simp; done) | (simp; omega) | (simp [*]; done) | (simp [*]; omega)) (by first | assumption | omega | (simp only [catp_cons, catp_nil, List.append_nil, List.length_append]; omega) | (simp [catp_cons, catp_nil]; done) | (simp [catp_cons, catp_nil]; omega))) (enters_of Try.func27 (by kernel_rfl) rfl) rfl rfl rfl rfl rfl (fun t287 q288 => ?_))
              refine T_slot 47 (.agg ((mactag xs (catp ([(Pt.mk none 0 0 []), (Pt.mk none 0 0 [])]))).map b8).toArray) (.agg ((mactag xs []).map b8).toArray) rfl (by simp [catp]) ?_
              refine D_on [5, 6] rfl ?_
              refine D_pure (i := 23) [5, 6] rfl (by kernel_rfl) rfl (pr_eqagg (bo := .eql) (c := ((mactag xs []) == (mactag xs []))) (r := ((mactag xs []) == (mactag xs []))) (eqb8 (xs := (mactag xs [])) (ys := (mactag xs [])) Try.underlying26 Try.underlying5 (by kernel_rfl) (by first | omega | (simp; done) | (simp; omega) | (simp [*]; done) | (simp [*]; omega)) (by first | omega | (simp; done) | (simp; omega) | (simp [*]; done) | (simp [*]; omega))) (by kernel_rfl) rfl rfl rfl rfl rfl) (.inr rfl) rfl rfl ?_
              refine D_pure (i := 24) [5, 6] rfl (by kernel_rfl) rfl (pr_pick_t rfl rfl rfl) (.inr rfl) rfl rfl ?_
              refine D_pure (i := 25) [5, 6] rfl (by kernel_rfl) rfl (pr_move rfl rfl) (.inr rfl) rfl rfl ?_
              refine T_slot 48 (.bool ((mactag xs []) == (mactag xs []))) (.bool true) rfl (congrArg _ (by simp)) ?_
              refine T_slot 49 (.bool ((mactag xs []) == (mactag xs []))) (.bool true) rfl (congrArg _ (by simp)) ?_
              refine T_slot 50 (.bool ((mactag xs []) == (mactag xs []))) (.bool true) rfl (congrArg _ (by simp)) ?_
              refine D_pure (i := 26) [5, 6] rfl (by kernel_rfl) rfl (pr_move rfl rfl) (.inr rfl) rfl rfl ?_
              refine D_pure (i := 27) [5, 6] rfl (by kernel_rfl) rfl (pr_move rfl rfl) (.inr rfl) rfl rfl ?_
              refine D_pure (i := 30) [5, 6] rfl (by kernel_rfl) rfl (pr_move rfl rfl) (.inr rfl) rfl rfl ?_
              refine D_pure (i := 31) [5, 6] rfl (by kernel_rfl) rfl (pr_move rfl rfl) (.inr rfl) rfl rfl ?_
              refine D_one 28 _ rfl (by kernel_rfl) rfl (op_bslice (e := 24) (zs := [(.slice A n c)]) (qs := [(0, (.slice A n c))]) (fun _ => by kernel_rfl) rfl rfl rfl rfl (fun g289 => ?_))
              refine D_on [6, 7] rfl ?_
              refine D_one 29 _ rfl (by kernel_rfl) rfl (op_call0 (vs := [(.slice B nb d), (.slice (some ⟨g289, 0, none⟩) 1 1)]) (cap := []) (fun w hw => tag_f bs B nb d [(Pt.mk A n c xs)] (some ⟨g289, 0, none⟩) 1 1 w (hok_cons ((src_rd 7 rfl) w hw) (hok_cons ((src_full (z := 1) 0 rfl rfl (by first | omega | (simp; done) | (simp; omega) | (simp [*]; done) | (simp [*]; omega)) (by first | omega | (simp; done) | (simp; omega) | (simp [*]; done) | (simp [*]; omega))) w hw) (hok_cons (all_cons ((src_rd 6 rfl) w hw) (all_nil w)) (hok_nil w)))) (by first | assumption | omega | (simp; done) | (simp; omega)) (by first | omega | (simp; done) | (simp; omega) | (simp [*]; done) | (simp [*]; omega)) (by first | omega | (simp; done) | (simp; omega) | (simp [*]; done) | (simp [*]; omega)) (by first | omega | (simp; done) | (simp; omega) | (simp [*]; done) | (simp [*]; omega)) (by first | assumption | omega | (simp only [catp_cons, catp_nil, List.append_nil, List.length_append]; omega) | (simp [catp_cons, catp_nil]; done) | (simp [catp_cons, catp_nil]; omega))) (enters_of Try.func27 (by kernel_rfl) rfl) rfl rfl rfl rfl rfl (fun t290 q291 => ?_))
              refine T_slot 54 (.agg ((mactag bs (catp [(Pt.mk A n c xs)])).map b8).toArray) (.agg ((mactag bs xs).map b8).toArray) rfl (by rw [catp_one]) ?_
              refine D_on [6, 7] rfl ?_
              refine D_one 32 _ rfl (by kernel_rfl) rfl (op_call0 (vs := [(.slice B nb d), (.slice A n c)]) (cap := []) (fun w hw => rtag_f bs B nb d xs A n c w (hok_cons ((src_rd 7 rfl) w hw) (hok_cons ((src_rd 6 rfl) w hw) (hok_nil w))) (by first | assumption | omega | (simp; done) | (simp; omega)) (by first | omega | (simp; done) | (simp; omega) | (simp [*]; done) | (simp [*]; omega)) (by first | assumption | omega | (simp; done) | (simp; omega)) (by first | omega | (simp; done) | (simp; omega) | (simp [*]; done) | (simp [*]; omega))) (enters_of Try.func28 (by kernel_rfl) rfl) rfl rfl rfl rfl rfl (fun t292 q293 => ?_))
              refine D_on [6, 7] rfl ?_
              refine D_pure (i := 33) [6, 7] rfl (by kernel_rfl) rfl (pr_eqagg (bo := .eql) (c := ((mactag bs xs) == (mactag bs xs))) (r := ((mactag bs xs) == (mactag bs xs))) (eqb8 (xs := (mactag bs xs)) (ys := (mactag bs xs)) Try.underlying26 Try.underlying5 (by kernel_rfl) (by first | omega | (simp; done) | (simp; omega) | (simp [*]; done) | (simp [*]; omega)) (by first | omega | (simp; done) | (simp; omega) | (simp [*]; done) | (simp [*]; omega))) (by kernel_rfl) rfl rfl rfl rfl rfl) (.inr rfl) rfl rfl ?_
              refine D_pure (i := 34) [6, 7] rfl (by kernel_rfl) rfl (pr_pick_t rfl rfl rfl) (.inr rfl) rfl rfl ?_
              refine D_pure (i := 35) [6, 7] rfl (by kernel_rfl) rfl (pr_assign rfl rfl) (.inr rfl) rfl rfl ?_
              refine D_done (by kernel_rfl) ?_
              exact T_meet () trivial (sc rfl sn) [6, 7] ⟨by decide, rfl⟩
      · rintro ⟨⟩ -
        refine T_re [(6, (.bool ((mactag bs xs) == (mactag bs xs))))] (sc rfl sn) ?_
        refine T_he [0, 1] [.rd A 1 n c (xs.map b8), .rd B 1 nb d (bs.map b8)] ⟨by decide, rfl⟩ ?_
        refine T_ret ?_
        refine T_slot 6 (.bool ((mactag bs xs) == (mactag bs xs))) (.bool true) rfl (by simp) ?_
        exact T_fin () (by first | trivial | omega | (simp; done)) (res1 rfl rfl) [] ⟨by decide, rfl⟩ rfl
end Go.Proofs.Ytmhkmamenfmolaa
