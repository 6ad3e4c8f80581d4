/- awake of layer 4, walked by facts. -/
import Derived.Test.YtmhkmamenfmolaaGHkdf
import Derived.Test.YtmhkmamenfmolaaProg
import Derived.Test.YtmhkmamenfmolaaFwU
namespace Go.Proofs.Ytmhkmamenfmolaa
set_option linter.unusedVariables false
set_option linter.unusedSimpArgs false
set_option linter.unnecessarySimpa false
open Go.RowKit Bv Fw

theorem catp_one {A : Option Addr} {a b : Nat} {xs : List (BitVec 8)} : catp [⟨A, a, b, xs⟩] = xs := by simp [catp]
theorem hk_first (key info : List (BitVec 8)) (n : Nat) (h : 32 ≤ n) : List.take 32 (hkdf key info n) = mactag key (info ++ [1#8]) := by
  rw [← List.drop_zero (l := hkdf key info n)]
  have := hkdf_piece key info n 0 (by omega) (by omega)
  rw [Nat.mul_zero] at this
  rw [this, hkpc_succ, hkpc_zero]; rfl
theorem hpad_zeros (k : List (BitVec 8)) (x : BitVec 8) (m : Nat) : hpad (k ++ List.replicate m 0#8) x = hpad k x := by
  refine ext_ath (by rw [hpad_len, hpad_len]) (fun j hj => ?_)
  rw [hpad_len] at hj
  rw [hpad_at _ _ _ hj, hpad_at _ _ _ hj]
  by_cases h : j < k.length
  · rw [ath_app_l _ _ _ h]
  · rw [ath_app_r _ _ _ (by omega), ath_rep0, ath_out k j (by omega)]
theorem mactag_zeros (k t : List (BitVec 8)) (m : Nat) (h : k.length + m ≤ 64) : mactag (k ++ List.replicate m 0#8) t = mactag k t := by
  rw [← mactag_short k t (by omega), ← mactag_short _ t (by simp; omega), hpad_zeros, hpad_zeros]

set_option maxHeartbeats 4000000 in
theorem awake4_f  (w : World) (hO : HOK [] w)  : Calls Try.prog 29 [].toArray w (Ret (T := Unit) [] w (fun _ => True) (fun _ => (.bool true)) (fun _ => [])) := by
  have hml := mactag_len ([1#8] ++ List.replicate 31 0#8) [1#8]
  have hkl := hkdf_len [1#8, 0#8, 0#8, 0#8, 0#8, 0#8, 0#8, 0#8, 0#8, 0#8, 0#8, 0#8, 0#8, 0#8, 0#8, 0#8, 0#8, 0#8, 0#8, 0#8, 0#8, 0#8, 0#8, 0#8, 0#8, 0#8, 0#8, 0#8, 0#8, 0#8, 0#8, 0#8] [] 40 (by omega)
  have hF : Wid Fence.wide := wid_wide
  refine enter (c := _) Try.func29 rfl [] [] [] (by rw [Try.ntmps29]; rfl) (own_rds hO rfl) ?_
  rw [Try.ntmps29]
  refine T_re [] sn ?_
  refine T_he [] [] ⟨by decide, rfl⟩ ?_
  refine T_seq ?_
  refine T_reg hF rfl ?_
  refine L_op rfl (op_pr (pr_assign rfl rfl) rfl rfl ?_)
  refine L_nil ?_
  refine T_re [] sn ?_
  refine T_he [] [] ⟨by decide, rfl⟩ ?_
  refine T_seq ?_
  refine T_reg hF rfl ?_
  refine L_op rfl (op_pr (pr_build (qs := [(0, (b8 (1#8)))]) (v := .agg ([1#8, 0#8, 0#8, 0#8, 0#8, 0#8, 0#8, 0#8, 0#8, 0#8, 0#8, 0#8, 0#8, 0#8, 0#8, 0#8, 0#8, 0#8, 0#8, 0#8, 0#8, 0#8, 0#8, 0#8, 0#8, 0#8, 0#8, 0#8, 0#8, 0#8, 0#8, 0#8].map b8).toArray) (fun _ => by kernel_rfl) rfl rfl) rfl rfl ?_)
  refine L_op rfl (op_call0 (vs := [(.agg ([1#8, 0#8, 0#8, 0#8, 0#8, 0#8, 0#8, 0#8, 0#8, 0#8, 0#8, 0#8, 0#8, 0#8, 0#8, 0#8, 0#8, 0#8, 0#8, 0#8, 0#8, 0#8, 0#8, 0#8, 0#8, 0#8, 0#8, 0#8, 0#8, 0#8, 0#8, 0#8].map b8).toArray), (.slice none 0 0), (.int .i64 ((40 : Nat) : Int))]) (cap := []) (fun w hw => expand_f [1#8, 0#8, 0#8, 0#8, 0#8, 0#8, 0#8, 0#8, 0#8, 0#8, 0#8, 0#8, 0#8, 0#8, 0#8, 0#8, 0#8, 0#8, 0#8, 0#8, 0#8, 0#8, 0#8, 0#8, 0#8, 0#8, 0#8, 0#8, 0#8, 0#8, 0#8, 0#8] [] none 0 0 40 w (hok_cons ((src_nil 1) w hw) (hok_nil w)) (by first | assumption | omega | (simp; done) | (simp; omega)) (by first | assumption | omega | (simp; done) | (simp; omega)) sd sd sd) (enters_of Try.func30 (by kernel_rfl) rfl) rfl rfl rfl rfl rfl (fun t1 q2 => ?_))
  obtain ⟨B3, eB3⟩ : ∃ x, x = t1 := ⟨_, rfl⟩
  subst eB3
  refine L_op rfl (op_pr (pr_move rfl rfl) rfl rfl ?_)
  refine L_op rfl (op_pr (pr_ext (vs := [(.slice B3 40 40), (.int .i64 ((0 : Nat) : Int))]) rfl rfl rfl) rfl rfl ?_)
  refine T_tord 0 rfl ?_
  refine L_op rfl (op_pr (pr_ext (vs := [(.slice B3 40 40), (.int .i64 ((0 : Nat) : Int))]) rfl rfl rfl) rfl rfl ?_)
  refine L_op rfl (op_pr (pr_assign rfl rfl) rfl rfl ?_)
  refine L_op rfl (op_pr (pr_assign rfl rfl) rfl rfl ?_)
  refine L_nil ?_
  refine T_re [(1, (.slice B3 40 40)), (2, (.int .i64 ((0 : Nat) : Int)))] (sc rfl (sc rfl sn)) ?_
  refine T_he [0] [.rd B3 1 40 40 ((hkdf [1#8, 0#8, 0#8, 0#8, 0#8, 0#8, 0#8, 0#8, 0#8, 0#8, 0#8, 0#8, 0#8, 0#8, 0#8, 0#8, 0#8, 0#8, 0#8, 0#8, 0#8, 0#8, 0#8, 0#8, 0#8, 0#8, 0#8, 0#8, 0#8, 0#8, 0#8, 0#8] [] 40).map b8)] ⟨by decide, rfl⟩ ?_
  refine T_seq ?_
  refine T_reg hF rfl ?_
  refine L_op rfl (op_bslice (e := 5) (zs := [(b8 (1#8))]) (qs := [(0, (b8 (1#8)))]) (fun _ => by kernel_rfl) rfl rfl rfl rfl (fun g4 => ?_))
  refine T_rowb 0 (zs := [(b8 (1#8))]) 1 1 1 rfl sd sd rfl rfl ?_
  refine L_op rfl (op_append0 (z := (b8 (0#8))) (bytes := 1) (m := 31) 0 rfl Try.underlying24 Try.underlying3 (by kernel_rfl) rfl rfl sd sd rfl rfl rfl rfl rfl (fun A5 C6 => ?_))
  refine T_as 0 (.row (.slice A5 (1 + 31) C6) 5 1 (1 + 31) ([(b8 (1#8))] ++ List.replicate 31 (b8 (0#8)))) (.row (.slice A5 32 C6) 5 1 32 (([1#8] ++ (List.replicate 31 0#8)).map b8)) rfl (by first | rfl | (congr 1; simp)) ?_
  refine L_op rfl (op_bslice (e := 5) (zs := [(b8 (1#8))]) (qs := [(0, (b8 (1#8)))]) (fun _ => by kernel_rfl) rfl rfl rfl rfl (fun g7 => ?_))
  refine L_op rfl (op_call0 (vs := [(.slice A5 32 C6), (.slice (some ⟨g7, 0, none⟩) 1 1)]) (cap := []) (fun w hw => rtag_f ([1#8] ++ (List.replicate 31 0#8)) A5 32 C6 [1#8] (some ⟨g7, 0, none⟩) 1 1 w (hok_cons ((src_row 1 rfl) w hw) (hok_cons ((src_full (z := 1) 0 rfl rfl sd sd) w hw) (hok_nil w))) (by first | assumption | omega | (simp; done) | (simp; omega)) sd (by first | assumption | omega | (simp; done) | (simp; omega)) sd) (enters_of Try.func28 (by kernel_rfl) rfl) rfl rfl rfl rfl rfl (fun t8 q9 => ?_))
  refine L_op rfl (op_alloc (z := .agg ((List.replicate 32 0#8).map b8).toArray) (zs := ((List.replicate 32 0#8).map b8)) (by kernel_rfl) rfl rfl rfl rfl (fun g10 => ?_))
  refine L_op rfl (op_store (vs := ((mactag ([1#8] ++ (List.replicate 31 0#8)) [1#8]).map b8)) (cs' := ((mactag ([1#8] ++ (List.replicate 31 0#8)) [1#8]).map b8)) 0 rfl rfl (by rw [show (((mactag ([1#8] ++ (List.replicate 31 0#8)) [1#8]).map b8)).length = 32 from sd]; kernel_rfl) (all8_one _) (by have h1 : (((List.replicate 32 0#8).map b8)).length = 32 := (by kernel_rfl); have h2 : (((mactag ([1#8] ++ (List.replicate 31 0#8)) [1#8]).map b8)).length = 32 := sd; omega) (splice_all (Eq.trans (b := 32) (by kernel_rfl) (Eq.symm sd))) rfl rfl rfl rfl ?_)
  refine L_nil ?_
  refine T_re [(1, (.slice B3 40 40)), (2, (.int .i64 ((0 : Nat) : Int))), (3, (.pointer (some ⟨g10, 0, none⟩)))] (sc rfl (sc rfl (sc rfl sn))) ?_
  refine T_he [0, 1, 2, 3] [.blk g10 26 ((mactag ([1#8] ++ (List.replicate 31 0#8)) [1#8]).map b8), .blk g7 5 [(b8 (1#8))], .row (.slice A5 32 C6) 5 1 32 (([1#8] ++ (List.replicate 31 0#8)).map b8), .rd B3 1 40 40 ((hkdf [1#8, 0#8, 0#8, 0#8, 0#8, 0#8, 0#8, 0#8, 0#8, 0#8, 0#8, 0#8, 0#8, 0#8, 0#8, 0#8, 0#8, 0#8, 0#8, 0#8, 0#8, 0#8, 0#8, 0#8, 0#8, 0#8, 0#8, 0#8, 0#8, 0#8, 0#8, 0#8] [] 40).map b8)] ⟨by decide, rfl⟩ ?_
  refine T_seq ?_
  refine T_regD [.blk g10 26 ((mactag ([1#8] ++ (List.replicate 31 0#8)) [1#8]).map b8), .blk g7 5 [(b8 (1#8))], .row (.slice A5 32 C6) 5 1 32 (([1#8] ++ (List.replicate 31 0#8)).map b8), .rd B3 1 40 40 ((hkdf [1#8, 0#8, 0#8, 0#8, 0#8, 0#8, 0#8, 0#8, 0#8, 0#8, 0#8, 0#8, 0#8, 0#8, 0#8, 0#8, 0#8, 0#8, 0#8, 0#8, 0#8, 0#8, 0#8, 0#8, 0#8, 0#8, 0#8, 0#8, 0#8, 0#8, 0#8, 0#8] [] 40).map b8)] 16 16 #[false, false, false, false, false, false, false, false, false, false, false, false, false, false, false, false] hF (by kernel_rfl) (by kernel_rfl) ?_
  refine D_pure (i := 0) [0, 1, 2, 3] rfl (by kernel_rfl) rfl (pr_move rfl rfl) (.inr rfl) rfl rfl ?_
  refine D_pure (i := 1) [0, 1, 2, 3] rfl (by kernel_rfl) rfl (pr_cmp (bo := .eql) (nc_eq (a := 0) (b := 0)) rfl rfl rfl rfl) (.inr rfl) rfl rfl ?_
  refine D_pure (i := 2) [0, 1, 2, 3] rfl (by kernel_rfl) rfl (pr_move rfl rfl) (.inr rfl) rfl rfl ?_
  refine D_pure (i := 3) [0, 1, 2, 3] rfl (by kernel_rfl) rfl (pr_move rfl rfl) (.inr rfl) rfl rfl ?_
  refine D_pure (i := 4) [0, 1, 2, 3] rfl (by kernel_rfl) rfl (pr_len_sl Try.underlying24 rfl rfl) (.inr rfl) rfl rfl ?_
  refine D_pure (i := 5) [0, 1, 2, 3] rfl (by kernel_rfl) rfl (pr_cmp (bo := .eql) (nc_eq (a := 40) (b := 40)) rfl rfl rfl rfl) (.inr rfl) rfl rfl ?_
  refine D_pure (i := 6) [0, 1, 2, 3] rfl (by kernel_rfl) rfl (pr_pick_t rfl rfl rfl) (.inr rfl) rfl rfl ?_
  refine D_pure (i := 7) [0, 1, 2, 3] rfl (by kernel_rfl) rfl (pr_move rfl rfl) (.inr rfl) rfl rfl ?_
  refine D_pure (i := 8) [0, 1, 2, 3] rfl (by kernel_rfl) rfl (pr_move rfl rfl) (.inr rfl) rfl rfl ?_
  refine D_pure (i := 11) [0, 1, 2, 3] rfl (by kernel_rfl) rfl (pr_sla (l := 0) (u := 32) (m := 0) sd sd sd rfl Try.underlying26 (z := 1) (by kernel_rfl) rfl rfl rfl rfl) (.inr rfl) rfl rfl ?_
  refine D_take (i := 12) [0, 1, 2, 3] rfl (by kernel_rfl) rfl (ld_str (xs := (mactag ([1#8] ++ (List.replicate 31 0#8)) [1#8])) (src_full (z := 1) 0 rfl sd sd sd) Try.underlying24 Try.underlying5 Try.underlying9 rfl rfl) rfl rfl rfl ?_
  refine D_one 9 _ rfl (by kernel_rfl) rfl (op_slice_rd (l := 0) (u := 32) 3 rfl sd sd Try.underlying24 (by kernel_rfl) rfl rfl rfl ⟨_, rfl⟩ rfl rfl (fun B11 => ?_))
  refine T_as 0 _ (.rd B11 1 32 40 ((List.take 32 (hkdf [1#8, 0#8, 0#8, 0#8, 0#8, 0#8, 0#8, 0#8, 0#8, 0#8, 0#8, 0#8, 0#8, 0#8, 0#8, 0#8, 0#8, 0#8, 0#8, 0#8, 0#8, 0#8, 0#8, 0#8, 0#8, 0#8, 0#8, 0#8, 0#8, 0#8, 0#8, 0#8] [] 40)).map b8)) rfl (by congr 1; simp [List.map_take, List.map_drop] <;> omega) ?_
  refine T_slot 22 _ (.slice B11 32 40) rfl (by congr 1) ?_
  refine D_on [1, 2, 3, 4] rfl ?_
  refine D_one 10 _ rfl (by kernel_rfl) rfl (op_ld (ld_str (xs := (List.take 32 (hkdf [1#8, 0#8, 0#8, 0#8, 0#8, 0#8, 0#8, 0#8, 0#8, 0#8, 0#8, 0#8, 0#8, 0#8, 0#8, 0#8, 0#8, 0#8, 0#8, 0#8, 0#8, 0#8, 0#8, 0#8, 0#8, 0#8, 0#8, 0#8, 0#8, 0#8, 0#8, 0#8] [] 40))) (src_rd 0 rfl) Try.underlying24 Try.underlying5 Try.underlying9 rfl rfl) rfl rfl ?_)
  refine D_on [1, 2, 3, 4] rfl ?_
  refine D_pure (i := 13) [1, 2, 3, 4] rfl (by kernel_rfl) rfl (pr_streq rfl rfl rfl) (.inr rfl) rfl rfl ?_
  refine D_pure (i := 14) [1, 2, 3, 4] rfl (by kernel_rfl) rfl (pr_pick_t rfl rfl rfl) (.inr rfl) rfl rfl ?_
  refine D_pure (i := 15) [1, 2, 3, 4] rfl (by kernel_rfl) rfl (pr_assign rfl rfl) (.inr rfl) rfl rfl ?_
  refine D_done (by kernel_rfl) ?_
  refine T_re [(0, (.bool (decide ((List.take 32 (hkdf [1#8, 0#8, 0#8, 0#8, 0#8, 0#8, 0#8, 0#8, 0#8, 0#8, 0#8, 0#8, 0#8, 0#8, 0#8, 0#8, 0#8, 0#8, 0#8, 0#8, 0#8, 0#8, 0#8, 0#8, 0#8, 0#8, 0#8, 0#8, 0#8, 0#8, 0#8, 0#8] [] 40)) = (mactag ([1#8] ++ (List.replicate 31 0#8)) [1#8])))))] (sc rfl sn) ?_
  refine T_he [0, 1, 2, 3, 4] [.rd B11 1 32 40 ((List.take 32 (hkdf [1#8, 0#8, 0#8, 0#8, 0#8, 0#8, 0#8, 0#8, 0#8, 0#8, 0#8, 0#8, 0#8, 0#8, 0#8, 0#8, 0#8, 0#8, 0#8, 0#8, 0#8, 0#8, 0#8, 0#8, 0#8, 0#8, 0#8, 0#8, 0#8, 0#8, 0#8, 0#8] [] 40)).map b8), .blk g10 26 ((mactag ([1#8] ++ (List.replicate 31 0#8)) [1#8]).map b8), .blk g7 5 [(b8 (1#8))], .row (.slice A5 32 C6) 5 1 32 (([1#8] ++ (List.replicate 31 0#8)).map b8), .rd B3 1 40 40 ((hkdf [1#8, 0#8, 0#8, 0#8, 0#8, 0#8, 0#8, 0#8, 0#8, 0#8, 0#8, 0#8, 0#8, 0#8, 0#8, 0#8, 0#8, 0#8, 0#8, 0#8, 0#8, 0#8, 0#8, 0#8, 0#8, 0#8, 0#8, 0#8, 0#8, 0#8, 0#8, 0#8] [] 40).map b8)] ⟨by decide, rfl⟩ ?_
  refine T_ret ?_
  refine T_slot 0 (.bool (decide ((List.take 32 (hkdf [1#8, 0#8, 0#8, 0#8, 0#8, 0#8, 0#8, 0#8, 0#8, 0#8, 0#8, 0#8, 0#8, 0#8, 0#8, 0#8, 0#8, 0#8, 0#8, 0#8, 0#8, 0#8, 0#8, 0#8, 0#8, 0#8, 0#8, 0#8, 0#8, 0#8, 0#8, 0#8] [] 40)) = (mactag ([1#8] ++ (List.replicate 31 0#8)) [1#8])))) (.bool true) rfl (by first | rfl | (rw [hk_first _ _ _ (by omega)]; simp)) ?_
  exact T_fin () (by first | trivial | omega | (simp; done)) (res1 rfl rfl) [] ⟨by decide, rfl⟩ rfl
end Go.Proofs.Ytmhkmamenfmolaa
