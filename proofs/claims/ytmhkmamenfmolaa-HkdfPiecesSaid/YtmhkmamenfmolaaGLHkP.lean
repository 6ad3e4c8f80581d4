/- HkdfPieces, walked by facts. -/
import Derived.Test.YtmhkmamenfmolaaGLHkA
import Derived.Test.YtmhkmamenfmolaaProg
import Derived.Test.YtmhkmamenfmolaaFwU
namespace Go.Proofs.Ytmhkmamenfmolaa
set_option linter.unusedVariables false
set_option linter.unusedSimpArgs false
set_option linter.unnecessarySimpa false
open Go.RowKit Bv Fw

theorem hk_all (key info : List (BitVec 8)) (n k : Nat) (hk : k < n) (hn : n ≤ 255) : List.take 32 (List.drop (32 * k) (hkdf key info (32 * n))) = hkpc key info (k + 1) := hkdf_piece key info (32 * n) k (by omega) (by omega)

set_option maxHeartbeats 4000000 in
theorem hkdfPieces_f (key : List (BitVec 8)) (info : List (BitVec 8)) (A : Option Addr) (ni : Nat) (c : Nat) (z : Int) (w : World) (hO : HOK [.rd A 1 ni c (info.map b8)] w) (hkl : key.length = 32) (hi : info.length = ni) : Calls Try.prog 11 [(.agg (key.map b8).toArray), (.slice A ni c), (.int .i64 z)].toArray w (Ret (T := Unit) [] w (fun _ => True) (fun _ => (.bool true)) (fun _ => [])) := by
  have hF : Wid Fence.wide := wid_wide
  refine enter (c := _) Try.func11 rfl [] [(.agg (key.map b8).toArray), (.slice A ni c), (.int .i64 z)] [.rd A 1 ni c (info.map b8)] (by rw [Try.ntmps11]; rfl) (own_rds hO rfl) ?_
  rw [Try.ntmps11]
  refine T_re [(0, (.agg (key.map b8).toArray)), (1, (.slice A ni c)), (2, (.int .i64 z))] (sc rfl (sc rfl (sc rfl sn))) ?_
  refine T_he [0] [.rd A 1 ni c (info.map b8)] ⟨by decide, rfl⟩ ?_
  refine T_seq ?_
  refine T_reg hF rfl ?_
  refine L_op rfl (op_box (zs := (key.map b8)) rfl rfl rfl rfl rfl (fun g1 => ?_))
  refine L_op rfl (op_pr (pr_assign rfl rfl) rfl rfl ?_)
  refine L_nil ?_
  refine T_re [(1, (.slice A ni c)), (2, (.int .i64 z)), (3, (.pointer (some ⟨g1, 0, none⟩)))] (sc rfl (sc rfl (sc rfl sn))) ?_
  refine T_he [0, 1] [.blk g1 26 (key.map b8), .rd A 1 ni c (info.map b8)] ⟨by decide, rfl⟩ ?_
  refine T_seq ?_
  refine T_reg hF rfl ?_
  refine L_op rfl (op_pr (pr_move rfl rfl) rfl rfl ?_)
  refine L_op rfl (op_pr (pr_cv (zc_u64 z) Try.underlying3 Try.underlying37 rfl rfl) rfl rfl ?_)
  refine L_op rfl (op_pr (pr_rem (a := (BitVec.ofInt 64 z).toNat) (b := 8) sd rfl rfl rfl) rfl rfl ?_)
  refine L_op rfl (op_pr (pr_cv (ni_i64 (a := ((BitVec.ofInt 64 z).toNat) % 8) sd) Try.underlying37 Try.underlying3 rfl rfl) rfl rfl ?_)
  refine L_op rfl (op_pr (pr_add (na_i64 (a := 1) (b := ((BitVec.ofInt 64 z).toNat) % 8) sd) rfl rfl rfl) rfl rfl ?_)
  refine L_op rfl (op_pr (pr_assign rfl rfl) rfl rfl ?_)
  refine L_nil ?_
  obtain ⟨n, hn_n⟩ : ∃ x : Nat, 1 + (((BitVec.ofInt 64 z).toNat) % 8) = x := ⟨_, rfl⟩
  have hnb : 1 ≤ n ∧ n ≤ 8 := by omega
  have hkl2 := hkdf_len key info (32 * n) (by omega)
  refine T_slot 2 (.int .i64 ((1 + (((BitVec.ofInt 64 z).toNat) % 8) : Nat) : Int)) (.int .i64 ((n : Nat) : Int)) rfl (by rw [hn_n]) ?_
  refine T_re [(1, (.slice A ni c)), (2, (.int .i64 ((n : Nat) : Int))), (3, (.pointer (some ⟨g1, 0, none⟩)))] (sc rfl (sc rfl (sc rfl sn))) ?_
  refine T_he [0, 1] [.blk g1 26 (key.map b8), .rd A 1 ni c (info.map b8)] ⟨by decide, rfl⟩ ?_
  refine T_seq ?_
  refine T_seq ?_
  refine T_reg hF rfl ?_
  refine L_op rfl (op_pr (pr_move rfl rfl) rfl rfl ?_)
  refine L_op rfl (op_pr (pr_len_sl Try.underlying24 rfl rfl) rfl rfl ?_)
  refine L_op rfl (op_pr (pr_cmp (bo := .gtr) (nc_lt (a := 300) (b := ni)) rfl rfl rfl rfl) rfl rfl ?_)
  refine L_nil ?_
  refine T_re [(1, (.slice A ni c)), (2, (.int .i64 ((n : Nat) : Int))), (3, (.pointer (some ⟨g1, 0, none⟩))), (19, (.bool (decide (300 < ni))))] (sc rfl (sc rfl (sc rfl (sc rfl sn)))) ?_
  refine T_he [0, 1] [.blk g1 26 (key.map b8), .rd A 1 ni c (info.map b8)] ⟨by decide, rfl⟩ ?_
  refine T_cond (decide (300 < ni)) rfl (fun hc_2 => ?_) (fun hc_2 => ?_)
  · skip
    have hc_2 := of_decide_eq_true hc_2
    refine T_seq ?_
    refine T_reg hF rfl ?_
    refine L_op rfl (op_call0 (vs := []) (cap := []) (fun w hw => awake4_f  w (hok_nil w) ) (enters_of Try.func29 (by kernel_rfl) rfl) rfl rfl rfl rfl rfl (fun t3 q4 => ?_))
    refine L_op rfl (op_pr (pr_assign rfl rfl) rfl rfl ?_)
    refine L_nil ?_
    refine T_re [(6, (.bool true))] (sc rfl sn) ?_
    refine T_he [0, 1] [.blk g1 26 (key.map b8), .rd A 1 ni c (info.map b8)] ⟨by decide, rfl⟩ ?_
    refine T_ret ?_
    exact T_fin () (by first | trivial | omega | (simp; done)) (res1 rfl rfl) [] ⟨by decide, rfl⟩ rfl
  · skip
    have hc_2 := of_decide_eq_false hc_2
    refine T_skip ?_
    refine T_seq ?_
    refine T_reg hF rfl ?_
    refine L_op rfl (op_ld (ld_agg (ds := (key.map b8)) 0 rfl agg_all Try.underlying26 rfl (by rw [show ((key.map b8)).length = 32 from sd]; kernel_rfl) rfl rfl) rfl rfl ?_)
    refine L_op rfl (op_pr (pr_move rfl rfl) rfl rfl ?_)
    refine L_op rfl (op_pr (pr_move rfl rfl) rfl rfl ?_)
    refine L_op rfl (op_pr (pr_mul (nm_i64 (a := 32) (b := n) sd) rfl rfl rfl) rfl rfl ?_)
    refine L_op rfl (op_call0 (vs := [(.agg (key.map b8).toArray), (.slice A ni c), (.int .i64 ((32 * n : Nat) : Int))]) (cap := []) (fun w hw => expand_f key info A ni c (32 * n) w (hok_cons ((src_rd 1 rfl) w hw) (hok_nil w)) (by first | assumption | omega | (simp; done) | (simp; omega)) (by first | assumption | omega | (simp; done) | (simp; omega)) sd sd sd) (enters_of Try.func30 (by kernel_rfl) rfl) rfl rfl rfl rfl rfl (fun t5 q6 => ?_))
    obtain ⟨B7, eB7⟩ : ∃ x, x = t5 := ⟨_, rfl⟩
    subst eB7
    refine L_op rfl (op_pr (pr_move rfl rfl) rfl rfl ?_)
    refine L_op rfl (op_pr (pr_ext (vs := [(.slice B7 (32 * n) (32 * n)), (.int .i64 ((0 : Nat) : Int))]) rfl rfl rfl) rfl rfl ?_)
    refine T_tord 0 rfl ?_
    refine L_op rfl (op_pr (pr_ext (vs := [(.slice B7 (32 * n) (32 * n)), (.int .i64 ((0 : Nat) : Int))]) rfl rfl rfl) rfl rfl ?_)
    refine L_op rfl (op_pr (pr_assign rfl rfl) rfl rfl ?_)
    refine L_op rfl (op_pr (pr_assign rfl rfl) rfl rfl ?_)
    refine L_nil ?_
    refine T_re [(1, (.slice A ni c)), (2, (.int .i64 ((n : Nat) : Int))), (3, (.pointer (some ⟨g1, 0, none⟩))), (7, (.slice B7 (32 * n) (32 * n))), (8, (.int .i64 ((0 : Nat) : Int)))] (sc rfl (sc rfl (sc rfl (sc rfl (sc rfl sn))))) ?_
    refine T_he [0, 1, 2] [.rd B7 1 (32 * n) (32 * n) ((hkdf key info (32 * n)).map b8), .blk g1 26 (key.map b8), .rd A 1 ni c (info.map b8)] ⟨by decide, rfl⟩ ?_
    refine T_seq ?_
    refine T_seq ?_
    refine T_reg hF rfl ?_
    refine L_op rfl (op_call0 (vs := []) (cap := []) (fun w hw => awake4_f  w (hok_nil w) ) (enters_of Try.func29 (by kernel_rfl) rfl) rfl rfl rfl rfl rfl (fun t8 q9 => ?_))
    refine L_op rfl (op_pr (pr_un (v := .bool false) rfl rfl rfl) rfl rfl ?_)
    refine L_op rfl (op_pr (pr_move rfl rfl) rfl rfl ?_)
    refine L_op rfl (op_pr (pr_move rfl rfl) rfl rfl ?_)
    refine L_op rfl (op_pr (pr_cmp (bo := .neq) (nc_ne (a := 0) (b := 0)) rfl rfl rfl rfl) rfl rfl ?_)
    refine L_op rfl (op_pr (pr_pick_f rfl rfl rfl) rfl rfl ?_)
    refine L_op rfl (op_pr (pr_move rfl rfl) rfl rfl ?_)
    refine L_op rfl (op_pr (pr_move rfl rfl) rfl rfl ?_)
    refine L_op rfl (op_pr (pr_len_sl Try.underlying24 rfl rfl) rfl rfl ?_)
    refine L_op rfl (op_pr (pr_move rfl rfl) rfl rfl ?_)
    refine L_op rfl (op_pr (pr_mul (nm_i64 (a := 32) (b := n) sd) rfl rfl rfl) rfl rfl ?_)
    refine L_op rfl (op_pr (pr_cmp (bo := .neq) (nc_ne (a := 32 * n) (b := 32 * n)) rfl rfl rfl rfl) rfl rfl ?_)
    refine L_op rfl (op_pr (pr_pick_f rfl rfl rfl) rfl rfl ?_)
    refine L_nil ?_
    refine T_re [(1, (.slice A ni c)), (2, (.int .i64 ((n : Nat) : Int))), (3, (.pointer (some ⟨g1, 0, none⟩))), (7, (.slice B7 (32 * n) (32 * n))), (41, (.bool (32 * n != 32 * n)))] (sc rfl (sc rfl (sc rfl (sc rfl (sc rfl sn))))) ?_
    refine T_he [0, 1, 2] [.rd B7 1 (32 * n) (32 * n) ((hkdf key info (32 * n)).map b8), .blk g1 26 (key.map b8), .rd A 1 ni c (info.map b8)] ⟨by decide, rfl⟩ ?_
    refine T_cond_no (t := (32 * n != 32 * n)) rfl (by simp) ?_
    refine T_skip ?_
    refine T_seq ?_
    refine T_reg hF rfl ?_
    refine L_op rfl (op_pr (pr_assign rfl rfl) rfl rfl ?_)
    refine L_nil ?_
    refine T_re [(1, (.slice A ni c)), (2, (.int .i64 ((n : Nat) : Int))), (3, (.pointer (some ⟨g1, 0, none⟩))), (7, (.slice B7 (32 * n) (32 * n))), (9, (.slice none 0 0))] (sc rfl (sc rfl (sc rfl (sc rfl (sc rfl sn))))) ?_
    refine T_he [0, 1, 2] [.rd B7 1 (32 * n) (32 * n) ((hkdf key info (32 * n)).map b8), .blk g1 26 (key.map b8), .rd A 1 ni c (info.map b8)] ⟨by decide, rfl⟩ ?_
    refine T_seq ?_
    refine T_seq ?_
    refine T_reg hF rfl ?_
    refine L_op rfl (op_pr (pr_assign rfl rfl) rfl rfl ?_)
    refine L_nil ?_
    refine T_re [(1, (.slice A ni c)), (2, (.int .i64 ((n : Nat) : Int))), (3, (.pointer (some ⟨g1, 0, none⟩))), (7, (.slice B7 (32 * n) (32 * n))), (9, (.slice none 0 0)), (10, (.int .i64 ((0 : Nat) : Int)))] (sc rfl (sc rfl (sc rfl (sc rfl (sc rfl (sc rfl sn)))))) ?_
    refine T_he [0, 1, 2] [.rd B7 1 (32 * n) (32 * n) ((hkdf key info (32 * n)).map b8), .blk g1 26 (key.map b8), .rd A 1 ni c (info.map b8)] ⟨by decide, rfl⟩ ?_
    refine T_block ?_
    refine T_rdadd (.rd none 1 0 0 []) rfl rfl rfl rfl (fun w _ => ⟨⟨rfl, Nat.le_refl _, Nat.zero_le _, fun _ => rfl, fun ad h => by cases h⟩, fun ad h => by cases h⟩) (fun r hr => by simp [HA.rids, rid] at hr) ?_
    refine T_as 0 _ (.rd none 1 0 0 ((hkpc key info 0).map b8)) rfl (by rw [hkpc_zero]; rfl) ?_
    refine T_loop (T := Nat × Option Addr × Nat × Nat) (fun ⟨k, lA, ln, lc⟩ => k ≤ n ∧ (hkpc key info k).length = ln) (fun ⟨k, lA, ln, lc⟩ => [(1, (.slice A ni c)), (2, (.int .i64 ((n : Nat) : Int))), (3, (.pointer (some ⟨g1, 0, none⟩))), (7, (.slice B7 (32 * n) (32 * n))), (9, (.slice lA ln lc)), (10, (.int .i64 ((k : Nat) : Int)))]) (fun ⟨k, lA, ln, lc⟩ => [.rd lA 1 ln lc ((hkpc key info k).map b8), .rd B7 1 (32 * n) (32 * n) ((hkdf key info (32 * n)).map b8), .blk g1 26 (key.map b8), .rd A 1 ni c (info.map b8)]) (fun ⟨k, lA, ln, lc⟩ => n - k) (0, none, 0, 0) (by simp [hkpc_zero]) (sc rfl (sc rfl (sc rfl (sc rfl (sc rfl (sc rfl sn)))))) [0, 1, 2, 3] ⟨by decide, rfl⟩ ?_
    rintro ⟨k, lA, ln, lc⟩ hp
    have hp : k ≤ n ∧ (hkpc key info k).length = ln := hp
    have hle := hkpc_le key info k
    have hpl := hkpc_len key info k
    refine T_re [(1, (.slice A ni c)), (2, (.int .i64 ((n : Nat) : Int))), (3, (.pointer (some ⟨g1, 0, none⟩))), (7, (.slice B7 (32 * n) (32 * n))), (9, (.slice lA ln lc)), (10, (.int .i64 ((k : Nat) : Int)))] (sc rfl (sc rfl (sc rfl (sc rfl (sc rfl (sc rfl sn)))))) ?_
    refine T_he [0, 1, 2, 3] [.rd lA 1 ln lc ((hkpc key info k).map b8), .rd B7 1 (32 * n) (32 * n) ((hkdf key info (32 * n)).map b8), .blk g1 26 (key.map b8), .rd A 1 ni c (info.map b8)] ⟨by decide, rfl⟩ ?_
    refine T_seq ?_
    refine T_seq ?_
    refine T_reg hF rfl ?_
    refine L_op rfl (op_pr (pr_move rfl rfl) rfl rfl ?_)
    refine L_op rfl (op_pr (pr_move rfl rfl) rfl rfl ?_)
    refine L_op rfl (op_pr (pr_cmp (bo := .lss) (nc_lt (a := k) (b := n)) rfl rfl rfl rfl) rfl rfl ?_)
    refine L_nil ?_
    refine T_re [(1, (.slice A ni c)), (2, (.int .i64 ((n : Nat) : Int))), (3, (.pointer (some ⟨g1, 0, none⟩))), (7, (.slice B7 (32 * n) (32 * n))), (9, (.slice lA ln lc)), (10, (.int .i64 ((k : Nat) : Int))), (44, (.bool (decide (k < n))))] (sc rfl (sc rfl (sc rfl (sc rfl (sc rfl (sc rfl (sc rfl sn))))))) ?_
    refine T_he [0, 1, 2, 3] [.rd lA 1 ln lc ((hkpc key info k).map b8), .rd B7 1 (32 * n) (32 * n) ((hkdf key info (32 * n)).map b8), .blk g1 26 (key.map b8), .rd A 1 ni c (info.map b8)] ⟨by decide, rfl⟩ ?_
    refine T_cond (decide (k < n)) rfl (fun hc_10 => ?_) (fun hc_10 => ?_)
    · skip
      have hc_10 := of_decide_eq_true hc_10
      refine T_skip ?_
      refine T_seq ?_
      refine T_block ?_
      refine T_seq ?_
      refine T_regD [.rd lA 1 ln lc ((hkpc key info k).map b8), .rd B7 1 (32 * n) (32 * n) ((hkdf key info (32 * n)).map b8), .blk g1 26 (key.map b8), .rd A 1 ni c (info.map b8)] 2 13 #[false, false, false, false, false, false, false, false, false, false, false, false, false] hF (by kernel_rfl) (by kernel_rfl) ?_
      refine D_pure (i := 0) [0, 1, 2, 3] rfl (by kernel_rfl) rfl (pr_sla (l := 0) (u := 32) (m := 0) sd sd sd rfl Try.underlying26 (z := 1) (by kernel_rfl) rfl rfl rfl rfl) (.inr rfl) rfl rfl ?_
      refine D_pure (i := 1) [0, 1, 2, 3] rfl (by kernel_rfl) rfl (pr_move rfl rfl) (.inr rfl) rfl rfl ?_
      refine D_pure (i := 3) [0, 1, 2, 3] rfl (by kernel_rfl) rfl (pr_move rfl rfl) (.inr rfl) rfl rfl ?_
      refine D_pure (i := 5) [0, 1, 2, 3] rfl (by kernel_rfl) rfl (pr_move rfl rfl) (.inr rfl) rfl rfl ?_
      refine D_pure (i := 6) [0, 1, 2, 3] rfl (by kernel_rfl) rfl (pr_add (na_i64 (a := k) (b := 1) sd) rfl rfl rfl) (.inr rfl) rfl rfl ?_
      refine D_pure (i := 7) [0, 1, 2, 3] rfl (by kernel_rfl) rfl (pr_cv (nw8 (k + 1)) Try.underlying3 Try.underlying5 rfl rfl) (.inr rfl) rfl rfl ?_
      refine D_join (T := Nat) (fun _ => True) (fun g20 => [(1, (.slice A ni c)), (2, (.int .i64 ((n : Nat) : Int))), (3, (.pointer (some ⟨g1, 0, none⟩))), (7, (.slice B7 (32 * n) (32 * n))), (10, (.int .i64 ((k : Nat) : Int))), (11, (.pointer (some ⟨g20, 0, none⟩)))]) (fun g20 => [.blk g20 26 ((hkpc key info (k + 1)).map b8), .rd lA 1 ln lc ((hkpc key info k).map b8), .rd B7 1 (32 * n) (32 * n) ((hkdf key info (32 * n)).map b8), .blk g1 26 (key.map b8), .rd A 1 ni c (info.map b8)]) ?_ ?_
      · skip
        refine D_all [2, 8, 11] (by kernel_rfl) (by simp) ⟨⟨_, rfl, rfl, ?_⟩, ⟨_, rfl, rfl, ?_⟩, ⟨_, rfl, rfl, ?_⟩, trivial⟩
        · skip
          refine T_nilrow 5 1 ?_
          refine id (op_append (z := (b8 (0#8))) (size := 1) (bytes := 1) 0 rfl Try.underlying24 (by kernel_rfl) (by kernel_rfl) (by decide) (src_rd 1 rfl) (all8_one _) sd sd rfl rfl rfl rfl rfl (fun A21 C22 => ?_))
          refine T_as 0 (.row (.slice A21 (0 + ln) C22) 5 1 (0 + ln) ([] ++ ((hkpc key info k).map b8))) (.row (.slice A21 (0 + ln) C22) 5 1 (0 + ln) ((hkpc key info k).map b8)) rfl (by first | rfl | (congr 1; simp; done) | (simp only [List.map_append]; rfl) | (rw [List.map_append]; rfl)) ?_
          refine D_past (by kernel_rfl) ?_
          refine D_all [4, 8, 11] (by kernel_rfl) (by simp) ⟨⟨_, rfl, rfl, ?_⟩, ⟨_, rfl, rfl, ?_⟩, ⟨_, rfl, rfl, ?_⟩, trivial⟩
          · skip
            refine id (op_append (z := (b8 (0#8))) (size := 1) (bytes := 1) 0 rfl Try.underlying24 (by kernel_rfl) (by kernel_rfl) (by decide) (src_rd 4 rfl) (all8_one _) sd sd rfl rfl rfl rfl rfl (fun A23 C24 => ?_))
            refine T_as 0 (.row (.slice A23 (0 + ln + ni) C24) 5 1 (0 + ln + ni) (((hkpc key info k).map b8) ++ (info.map b8))) (.row (.slice A23 (0 + ln + ni) C24) 5 1 (0 + ln + ni) (((hkpc key info k) ++ info).map b8)) rfl (by first | rfl | (congr 1; simp; done) | (simp only [List.map_append]; rfl) | (rw [List.map_append]; rfl)) ?_
            refine D_past (by kernel_rfl) ?_
            refine D_all [8, 11] (by kernel_rfl) (by simp) ⟨⟨_, rfl, rfl, ?_⟩, ⟨_, rfl, rfl, ?_⟩, trivial⟩
            · skip
              refine id (op_bslice (e := 5) (zs := [(b8 (BitVec.ofNat 8 (k + 1)))]) (qs := [(0, (b8 (BitVec.ofNat 8 (k + 1))))]) (fun _ => by kernel_rfl) rfl rfl rfl rfl (fun g25 => ?_))
              refine D_past (by kernel_rfl) ?_
              refine D_all [9, 11] (by kernel_rfl) (by simp) ⟨⟨_, rfl, rfl, ?_⟩, ⟨_, rfl, rfl, ?_⟩, trivial⟩
              · skip
                refine id (op_append (z := (b8 (0#8))) (size := 1) (bytes := 1) 1 rfl Try.underlying24 (by kernel_rfl) (by kernel_rfl) (by decide) (src_full (z := 1) 0 rfl rfl sd sd) (by simp [Value.oneCell']) sd sd rfl rfl rfl rfl rfl (fun A26 C27 => ?_))
                refine T_as 0 (.row (.slice A26 (0 + ln + ni + 1) C27) 5 1 (0 + ln + ni + 1) ((((hkpc key info k) ++ info).map b8) ++ [(b8 (BitVec.ofNat 8 (k + 1)))])) (.row (.slice A26 (0 + ln + ni + 1) C27) 5 1 (0 + ln + ni + 1) ((((hkpc key info k) ++ info) ++ [(BitVec.ofNat 8 (k + 1))]).map b8)) rfl (by first | rfl | (congr 1; simp; done) | (simp only [List.map_append]; rfl) | (rw [List.map_append]; rfl)) ?_
                refine D_past (by kernel_rfl) ?_
                refine D_all [10, 11] (by kernel_rfl) (by simp) ⟨⟨_, rfl, rfl, ?_⟩, ⟨_, rfl, rfl, ?_⟩, trivial⟩
                · skip
                  refine id (op_call0 (vs := [(.slice (some ⟨g1, 0, none⟩) 32 32), (.slice A26 (0 + ln + ni + 1) C27)]) (cap := []) (fun w hw => rtag_f key (some ⟨g1, 0, none⟩) 32 32 (((hkpc key info k) ++ info) ++ [(BitVec.ofNat 8 (k + 1))]) A26 (0 + ln + ni + 1) C27 w (hok_cons ((src_full (z := 1) 4 rfl sd sd sd) w hw) (hok_cons ((src_row 0 rfl) w hw) (hok_nil w))) (by first | assumption | omega | (simp; done) | (simp; omega)) sd (by first | assumption | omega | (simp; done) | (simp; omega)) sd) (enters_of Try.func28 (by kernel_rfl) rfl) rfl rfl rfl rfl rfl (fun t28 q29 => ?_))
                  refine T_slot 57 (.agg ((mactag key (((hkpc key info k) ++ info) ++ [(BitVec.ofNat 8 (k + 1))])).map b8).toArray) (.agg ((hkpc key info (k + 1)).map b8).toArray) rfl (by rw [hkpc_succ]) ?_
                  refine D_past (by kernel_rfl) ?_
                  refine D_one 11 _ rfl (by kernel_rfl) rfl (op_alloc (z := .agg ((List.replicate 32 0#8).map b8).toArray) (zs := ((List.replicate 32 0#8).map b8)) (by kernel_rfl) rfl rfl rfl rfl (fun g30 => ?_))
                  refine D_past (by kernel_rfl) ?_
                  refine D_one 12 _ rfl (by kernel_rfl) rfl (op_store (vs := ((hkpc key info (k + 1)).map b8)) (cs' := ((hkpc key info (k + 1)).map b8)) 0 rfl rfl (by rw [show (((hkpc key info (k + 1)).map b8)).length = 32 from sd]; kernel_rfl) (all8_one _) (by have h1 : (((List.replicate 32 0#8).map b8)).length = 32 := (by kernel_rfl); have h2 : (((hkpc key info (k + 1)).map b8)).length = 32 := sd; omega) (splice_all (Eq.trans (b := 32) (by kernel_rfl) (Eq.symm sd))) rfl rfl rfl rfl ?_)
                  refine D_past (by kernel_rfl) ?_
                  refine D_done (by kernel_rfl) ?_
                  exact T_meet g30 trivial (sc rfl (sc rfl (sc rfl (sc rfl (sc rfl (sc rfl sn)))))) [0, 3, 4, 5, 6] ⟨by decide, rfl⟩
                · skip
                  refine id (op_alloc (z := .agg ((List.replicate 32 0#8).map b8).toArray) (zs := ((List.replicate 32 0#8).map b8)) (by kernel_rfl) rfl rfl rfl rfl (fun g31 => ?_))
                  refine D_past (by kernel_rfl) ?_
                  refine D_one 10 _ rfl (by kernel_rfl) rfl (op_call0 (vs := [(.slice (some ⟨g1, 0, none⟩) 32 32), (.slice A26 (0 + ln + ni + 1) C27)]) (cap := []) (fun w hw => rtag_f key (some ⟨g1, 0, none⟩) 32 32 (((hkpc key info k) ++ info) ++ [(BitVec.ofNat 8 (k + 1))]) A26 (0 + ln + ni + 1) C27 w (hok_cons ((src_full (z := 1) 5 rfl sd sd sd) w hw) (hok_cons ((src_row 1 rfl) w hw) (hok_nil w))) (by first | assumption | omega | (simp; done) | (simp; omega)) sd (by first | assumption | omega | (simp; done) | (simp; omega)) sd) (enters_of Try.func28 (by kernel_rfl) rfl) rfl rfl rfl rfl rfl (fun t32 q33 => ?_))
                  refine T_slot 57 (.agg ((mactag key (((hkpc key info k) ++ info) ++ [(BitVec.ofNat 8 (k + 1))])).map b8).toArray) (.agg ((hkpc key info (k + 1)).map b8).toArray) rfl (by rw [hkpc_succ]) ?_
                  refine D_past (by kernel_rfl) ?_
                  refine D_one 12 _ rfl (by kernel_rfl) rfl (op_store (vs := ((hkpc key info (k + 1)).map b8)) (cs' := ((hkpc key info (k + 1)).map b8)) 0 rfl rfl (by rw [show (((hkpc key info (k + 1)).map b8)).length = 32 from sd]; kernel_rfl) (all8_one _) (by have h1 : (((List.replicate 32 0#8).map b8)).length = 32 := (by kernel_rfl); have h2 : (((hkpc key info (k + 1)).map b8)).length = 32 := sd; omega) (splice_all (Eq.trans (b := 32) (by kernel_rfl) (Eq.symm sd))) rfl rfl rfl rfl ?_)
                  refine D_past (by kernel_rfl) ?_
                  refine D_done (by kernel_rfl) ?_
                  exact T_meet g31 trivial (sc rfl (sc rfl (sc rfl (sc rfl (sc rfl (sc rfl sn)))))) [0, 3, 4, 5, 6] ⟨by decide, rfl⟩
              · skip
                refine id (op_alloc (z := .agg ((List.replicate 32 0#8).map b8).toArray) (zs := ((List.replicate 32 0#8).map b8)) (by kernel_rfl) rfl rfl rfl rfl (fun g34 => ?_))
                refine D_past (by kernel_rfl) ?_
                refine D_one 9 _ rfl (by kernel_rfl) rfl (op_append (z := (b8 (0#8))) (size := 1) (bytes := 1) 2 rfl Try.underlying24 (by kernel_rfl) (by kernel_rfl) (by decide) (src_full (z := 1) 1 rfl rfl sd sd) (by simp [Value.oneCell']) sd sd rfl rfl rfl rfl rfl (fun A35 C36 => ?_))
                refine T_as 0 (.row (.slice A35 (0 + ln + ni + 1) C36) 5 1 (0 + ln + ni + 1) ((((hkpc key info k) ++ info).map b8) ++ [(b8 (BitVec.ofNat 8 (k + 1)))])) (.row (.slice A35 (0 + ln + ni + 1) C36) 5 1 (0 + ln + ni + 1) ((((hkpc key info k) ++ info) ++ [(BitVec.ofNat 8 (k + 1))]).map b8)) rfl (by first | rfl | (congr 1; simp; done) | (simp only [List.map_append]; rfl) | (rw [List.map_append]; rfl)) ?_
                refine D_past (by kernel_rfl) ?_
                refine D_one 10 _ rfl (by kernel_rfl) rfl (op_call0 (vs := [(.slice (some ⟨g1, 0, none⟩) 32 32), (.slice A35 (0 + ln + ni + 1) C36)]) (cap := []) (fun w hw => rtag_f key (some ⟨g1, 0, none⟩) 32 32 (((hkpc key info k) ++ info) ++ [(BitVec.ofNat 8 (k + 1))]) A35 (0 + ln + ni + 1) C36 w (hok_cons ((src_full (z := 1) 5 rfl sd sd sd) w hw) (hok_cons ((src_row 0 rfl) w hw) (hok_nil w))) (by first | assumption | omega | (simp; done) | (simp; omega)) sd (by first | assumption | omega | (simp; done) | (simp; omega)) sd) (enters_of Try.func28 (by kernel_rfl) rfl) rfl rfl rfl rfl rfl (fun t37 q38 => ?_))
                refine T_slot 57 (.agg ((mactag key (((hkpc key info k) ++ info) ++ [(BitVec.ofNat 8 (k + 1))])).map b8).toArray) (.agg ((hkpc key info (k + 1)).map b8).toArray) rfl (by rw [hkpc_succ]) ?_
                refine D_past (by kernel_rfl) ?_
                refine D_one 12 _ rfl (by kernel_rfl) rfl (op_store (vs := ((hkpc key info (k + 1)).map b8)) (cs' := ((hkpc key info (k + 1)).map b8)) 1 rfl rfl (by rw [show (((hkpc key info (k + 1)).map b8)).length = 32 from sd]; kernel_rfl) (all8_one _) (by have h1 : (((List.replicate 32 0#8).map b8)).length = 32 := (by kernel_rfl); have h2 : (((hkpc key info (k + 1)).map b8)).length = 32 := sd; omega) (splice_all (Eq.trans (b := 32) (by kernel_rfl) (Eq.symm sd))) rfl rfl rfl rfl ?_)
                refine D_past (by kernel_rfl) ?_
                refine D_done (by kernel_rfl) ?_
                exact T_meet g34 trivial (sc rfl (sc rfl (sc rfl (sc rfl (sc rfl (sc rfl sn)))))) [0, 3, 4, 5, 6] ⟨by decide, rfl⟩
            · skip
              refine id (op_alloc (z := .agg ((List.replicate 32 0#8).map b8).toArray) (zs := ((List.replicate 32 0#8).map b8)) (by kernel_rfl) rfl rfl rfl rfl (fun g39 => ?_))
              refine D_past (by kernel_rfl) ?_
              refine D_one 8 _ rfl (by kernel_rfl) rfl (op_bslice (e := 5) (zs := [(b8 (BitVec.ofNat 8 (k + 1)))]) (qs := [(0, (b8 (BitVec.ofNat 8 (k + 1))))]) (fun _ => by kernel_rfl) rfl rfl rfl rfl (fun g40 => ?_))
              refine D_past (by kernel_rfl) ?_
              refine D_one 9 _ rfl (by kernel_rfl) rfl (op_append (z := (b8 (0#8))) (size := 1) (bytes := 1) 2 rfl Try.underlying24 (by kernel_rfl) (by kernel_rfl) (by decide) (src_full (z := 1) 0 rfl rfl sd sd) (by simp [Value.oneCell']) sd sd rfl rfl rfl rfl rfl (fun A41 C42 => ?_))
              refine T_as 0 (.row (.slice A41 (0 + ln + ni + 1) C42) 5 1 (0 + ln + ni + 1) ((((hkpc key info k) ++ info).map b8) ++ [(b8 (BitVec.ofNat 8 (k + 1)))])) (.row (.slice A41 (0 + ln + ni + 1) C42) 5 1 (0 + ln + ni + 1) ((((hkpc key info k) ++ info) ++ [(BitVec.ofNat 8 (k + 1))]).map b8)) rfl (by first | rfl | (congr 1; simp; done) | (simp only [List.map_append]; rfl) | (rw [List.map_append]; rfl)) ?_
              refine D_past (by kernel_rfl) ?_
              refine D_one 10 _ rfl (by kernel_rfl) rfl (op_call0 (vs := [(.slice (some ⟨g1, 0, none⟩) 32 32), (.slice A41 (0 + ln + ni + 1) C42)]) (cap := []) (fun w hw => rtag_f key (some ⟨g1, 0, none⟩) 32 32 (((hkpc key info k) ++ info) ++ [(BitVec.ofNat 8 (k + 1))]) A41 (0 + ln + ni + 1) C42 w (hok_cons ((src_full (z := 1) 5 rfl sd sd sd) w hw) (hok_cons ((src_row 0 rfl) w hw) (hok_nil w))) (by first | assumption | omega | (simp; done) | (simp; omega)) sd (by first | assumption | omega | (simp; done) | (simp; omega)) sd) (enters_of Try.func28 (by kernel_rfl) rfl) rfl rfl rfl rfl rfl (fun t43 q44 => ?_))
              refine T_slot 57 (.agg ((mactag key (((hkpc key info k) ++ info) ++ [(BitVec.ofNat 8 (k + 1))])).map b8).toArray) (.agg ((hkpc key info (k + 1)).map b8).toArray) rfl (by rw [hkpc_succ]) ?_
              refine D_past (by kernel_rfl) ?_
              refine D_one 12 _ rfl (by kernel_rfl) rfl (op_store (vs := ((hkpc key info (k + 1)).map b8)) (cs' := ((hkpc key info (k + 1)).map b8)) 2 rfl rfl (by rw [show (((hkpc key info (k + 1)).map b8)).length = 32 from sd]; kernel_rfl) (all8_one _) (by have h1 : (((List.replicate 32 0#8).map b8)).length = 32 := (by kernel_rfl); have h2 : (((hkpc key info (k + 1)).map b8)).length = 32 := sd; omega) (splice_all (Eq.trans (b := 32) (by kernel_rfl) (Eq.symm sd))) rfl rfl rfl rfl ?_)
              refine D_past (by kernel_rfl) ?_
              refine D_done (by kernel_rfl) ?_
              exact T_meet g39 trivial (sc rfl (sc rfl (sc rfl (sc rfl (sc rfl (sc rfl sn)))))) [0, 3, 4, 5, 6] ⟨by decide, rfl⟩
          · skip
            refine id (op_bslice (e := 5) (zs := [(b8 (BitVec.ofNat 8 (k + 1)))]) (qs := [(0, (b8 (BitVec.ofNat 8 (k + 1))))]) (fun _ => by kernel_rfl) rfl rfl rfl rfl (fun g45 => ?_))
            refine D_past (by kernel_rfl) ?_
            refine D_all [4, 11] (by kernel_rfl) (by simp) ⟨⟨_, rfl, rfl, ?_⟩, ⟨_, rfl, rfl, ?_⟩, trivial⟩
            · skip
              refine id (op_append (z := (b8 (0#8))) (size := 1) (bytes := 1) 1 rfl Try.underlying24 (by kernel_rfl) (by kernel_rfl) (by decide) (src_rd 5 rfl) (all8_one _) sd sd rfl rfl rfl rfl rfl (fun A46 C47 => ?_))
              refine T_as 0 (.row (.slice A46 (0 + ln + ni) C47) 5 1 (0 + ln + ni) (((hkpc key info k).map b8) ++ (info.map b8))) (.row (.slice A46 (0 + ln + ni) C47) 5 1 (0 + ln + ni) (((hkpc key info k) ++ info).map b8)) rfl (by first | rfl | (congr 1; simp; done) | (simp only [List.map_append]; rfl) | (rw [List.map_append]; rfl)) ?_
              refine D_past (by kernel_rfl) ?_
              refine D_all [9, 11] (by kernel_rfl) (by simp) ⟨⟨_, rfl, rfl, ?_⟩, ⟨_, rfl, rfl, ?_⟩, trivial⟩
              · skip
                refine id (op_append (z := (b8 (0#8))) (size := 1) (bytes := 1) 0 rfl Try.underlying24 (by kernel_rfl) (by kernel_rfl) (by decide) (src_full (z := 1) 1 rfl rfl sd sd) (by simp [Value.oneCell']) sd sd rfl rfl rfl rfl rfl (fun A48 C49 => ?_))
                refine T_as 0 (.row (.slice A48 (0 + ln + ni + 1) C49) 5 1 (0 + ln + ni + 1) ((((hkpc key info k) ++ info).map b8) ++ [(b8 (BitVec.ofNat 8 (k + 1)))])) (.row (.slice A48 (0 + ln + ni + 1) C49) 5 1 (0 + ln + ni + 1) ((((hkpc key info k) ++ info) ++ [(BitVec.ofNat 8 (k + 1))]).map b8)) rfl (by first | rfl | (congr 1; simp; done) | (simp only [List.map_append]; rfl) | (rw [List.map_append]; rfl)) ?_
                refine D_past (by kernel_rfl) ?_
                refine D_all [10, 11] (by kernel_rfl) (by simp) ⟨⟨_, rfl, rfl, ?_⟩, ⟨_, rfl, rfl, ?_⟩, trivial⟩
                · skip
                  refine id (op_call0 (vs := [(.slice (some ⟨g1, 0, none⟩) 32 32), (.slice A48 (0 + ln + ni + 1) C49)]) (cap := []) (fun w hw => rtag_f key (some ⟨g1, 0, none⟩) 32 32 (((hkpc key info k) ++ info) ++ [(BitVec.ofNat 8 (k + 1))]) A48 (0 + ln + ni + 1) C49 w (hok_cons ((src_full (z := 1) 4 rfl sd sd sd) w hw) (hok_cons ((src_row 0 rfl) w hw) (hok_nil w))) (by first | assumption | omega | (simp; done) | (simp; omega)) sd (by first | assumption | omega | (simp; done) | (simp; omega)) sd) (enters_of Try.func28 (by kernel_rfl) rfl) rfl rfl rfl rfl rfl (fun t50 q51 => ?_))
                  refine T_slot 57 (.agg ((mactag key (((hkpc key info k) ++ info) ++ [(BitVec.ofNat 8 (k + 1))])).map b8).toArray) (.agg ((hkpc key info (k + 1)).map b8).toArray) rfl (by rw [hkpc_succ]) ?_
                  refine D_past (by kernel_rfl) ?_
                  refine D_one 11 _ rfl (by kernel_rfl) rfl (op_alloc (z := .agg ((List.replicate 32 0#8).map b8).toArray) (zs := ((List.replicate 32 0#8).map b8)) (by kernel_rfl) rfl rfl rfl rfl (fun g52 => ?_))
                  refine D_past (by kernel_rfl) ?_
                  refine D_one 12 _ rfl (by kernel_rfl) rfl (op_store (vs := ((hkpc key info (k + 1)).map b8)) (cs' := ((hkpc key info (k + 1)).map b8)) 0 rfl rfl (by rw [show (((hkpc key info (k + 1)).map b8)).length = 32 from sd]; kernel_rfl) (all8_one _) (by have h1 : (((List.replicate 32 0#8).map b8)).length = 32 := (by kernel_rfl); have h2 : (((hkpc key info (k + 1)).map b8)).length = 32 := sd; omega) (splice_all (Eq.trans (b := 32) (by kernel_rfl) (Eq.symm sd))) rfl rfl rfl rfl ?_)
                  refine D_past (by kernel_rfl) ?_
                  refine D_done (by kernel_rfl) ?_
                  exact T_meet g52 trivial (sc rfl (sc rfl (sc rfl (sc rfl (sc rfl (sc rfl sn)))))) [0, 3, 4, 5, 6] ⟨by decide, rfl⟩
                · skip
                  refine id (op_alloc (z := .agg ((List.replicate 32 0#8).map b8).toArray) (zs := ((List.replicate 32 0#8).map b8)) (by kernel_rfl) rfl rfl rfl rfl (fun g53 => ?_))
                  refine D_past (by kernel_rfl) ?_
                  refine D_one 10 _ rfl (by kernel_rfl) rfl (op_call0 (vs := [(.slice (some ⟨g1, 0, none⟩) 32 32), (.slice A48 (0 + ln + ni + 1) C49)]) (cap := []) (fun w hw => rtag_f key (some ⟨g1, 0, none⟩) 32 32 (((hkpc key info k) ++ info) ++ [(BitVec.ofNat 8 (k + 1))]) A48 (0 + ln + ni + 1) C49 w (hok_cons ((src_full (z := 1) 5 rfl sd sd sd) w hw) (hok_cons ((src_row 1 rfl) w hw) (hok_nil w))) (by first | assumption | omega | (simp; done) | (simp; omega)) sd (by first | assumption | omega | (simp; done) | (simp; omega)) sd) (enters_of Try.func28 (by kernel_rfl) rfl) rfl rfl rfl rfl rfl (fun t54 q55 => ?_))
                  refine T_slot 57 (.agg ((mactag key (((hkpc key info k) ++ info) ++ [(BitVec.ofNat 8 (k + 1))])).map b8).toArray) (.agg ((hkpc key info (k + 1)).map b8).toArray) rfl (by rw [hkpc_succ]) ?_
                  refine D_past (by kernel_rfl) ?_
                  refine D_one 12 _ rfl (by kernel_rfl) rfl (op_store (vs := ((hkpc key info (k + 1)).map b8)) (cs' := ((hkpc key info (k + 1)).map b8)) 0 rfl rfl (by rw [show (((hkpc key info (k + 1)).map b8)).length = 32 from sd]; kernel_rfl) (all8_one _) (by have h1 : (((List.replicate 32 0#8).map b8)).length = 32 := (by kernel_rfl); have h2 : (((hkpc key info (k + 1)).map b8)).length = 32 := sd; omega) (splice_all (Eq.trans (b := 32) (by kernel_rfl) (Eq.symm sd))) rfl rfl rfl rfl ?_)
                  refine D_past (by kernel_rfl) ?_
                  refine D_done (by kernel_rfl) ?_
                  exact T_meet g53 trivial (sc rfl (sc rfl (sc rfl (sc rfl (sc rfl (sc rfl sn)))))) [0, 3, 4, 5, 6] ⟨by decide, rfl⟩
              · skip
                refine id (op_alloc (z := .agg ((List.replicate 32 0#8).map b8).toArray) (zs := ((List.replicate 32 0#8).map b8)) (by kernel_rfl) rfl rfl rfl rfl (fun g56 => ?_))
                refine D_past (by kernel_rfl) ?_
                refine D_one 9 _ rfl (by kernel_rfl) rfl (op_append (z := (b8 (0#8))) (size := 1) (bytes := 1) 1 rfl Try.underlying24 (by kernel_rfl) (by kernel_rfl) (by decide) (src_full (z := 1) 2 rfl rfl sd sd) (by simp [Value.oneCell']) sd sd rfl rfl rfl rfl rfl (fun A57 C58 => ?_))
                refine T_as 0 (.row (.slice A57 (0 + ln + ni + 1) C58) 5 1 (0 + ln + ni + 1) ((((hkpc key info k) ++ info).map b8) ++ [(b8 (BitVec.ofNat 8 (k + 1)))])) (.row (.slice A57 (0 + ln + ni + 1) C58) 5 1 (0 + ln + ni + 1) ((((hkpc key info k) ++ info) ++ [(BitVec.ofNat 8 (k + 1))]).map b8)) rfl (by first | rfl | (congr 1; simp; done) | (simp only [List.map_append]; rfl) | (rw [List.map_append]; rfl)) ?_
                refine D_past (by kernel_rfl) ?_
                refine D_one 10 _ rfl (by kernel_rfl) rfl (op_call0 (vs := [(.slice (some ⟨g1, 0, none⟩) 32 32), (.slice A57 (0 + ln + ni + 1) C58)]) (cap := []) (fun w hw => rtag_f key (some ⟨g1, 0, none⟩) 32 32 (((hkpc key info k) ++ info) ++ [(BitVec.ofNat 8 (k + 1))]) A57 (0 + ln + ni + 1) C58 w (hok_cons ((src_full (z := 1) 5 rfl sd sd sd) w hw) (hok_cons ((src_row 0 rfl) w hw) (hok_nil w))) (by first | assumption | omega | (simp; done) | (simp; omega)) sd (by first | assumption | omega | (simp; done) | (simp; omega)) sd) (enters_of Try.func28 (by kernel_rfl) rfl) rfl rfl rfl rfl rfl (fun t59 q60 => ?_))
                refine T_slot 57 (.agg ((mactag key (((hkpc key info k) ++ info) ++ [(BitVec.ofNat 8 (k + 1))])).map b8).toArray) (.agg ((hkpc key info (k + 1)).map b8).toArray) rfl (by rw [hkpc_succ]) ?_
                refine D_past (by kernel_rfl) ?_
                refine D_one 12 _ rfl (by kernel_rfl) rfl (op_store (vs := ((hkpc key info (k + 1)).map b8)) (cs' := ((hkpc key info (k + 1)).map b8)) 1 rfl rfl (by rw [show (((hkpc key info (k + 1)).map b8)).length = 32 from sd]; kernel_rfl) (all8_one _) (by have h1 : (((List.replicate 32 0#8).map b8)).length = 32 := (by kernel_rfl); have h2 : (((hkpc key info (k + 1)).map b8)).length = 32 := sd; omega) (splice_all (Eq.trans (b := 32) (by kernel_rfl) (Eq.symm sd))) rfl rfl rfl rfl ?_)
                refine D_past (by kernel_rfl) ?_
                refine D_done (by kernel_rfl) ?_
                exact T_meet g56 trivial (sc rfl (sc rfl (sc rfl (sc rfl (sc rfl (sc rfl sn)))))) [0, 3, 4, 5, 6] ⟨by decide, rfl⟩
            · skip
              refine id (op_alloc (z := .agg ((List.replicate 32 0#8).map b8).toArray) (zs := ((List.replicate 32 0#8).map b8)) (by kernel_rfl) rfl rfl rfl rfl (fun g61 => ?_))
              refine D_past (by kernel_rfl) ?_
              refine D_one 4 _ rfl (by kernel_rfl) rfl (op_append (z := (b8 (0#8))) (size := 1) (bytes := 1) 2 rfl Try.underlying24 (by kernel_rfl) (by kernel_rfl) (by decide) (src_rd 6 rfl) (all8_one _) sd sd rfl rfl rfl rfl rfl (fun A62 C63 => ?_))
              refine T_as 0 (.row (.slice A62 (0 + ln + ni) C63) 5 1 (0 + ln + ni) (((hkpc key info k).map b8) ++ (info.map b8))) (.row (.slice A62 (0 + ln + ni) C63) 5 1 (0 + ln + ni) (((hkpc key info k) ++ info).map b8)) rfl (by first | rfl | (congr 1; simp; done) | (simp only [List.map_append]; rfl) | (rw [List.map_append]; rfl)) ?_
              refine D_past (by kernel_rfl) ?_
              refine D_one 9 _ rfl (by kernel_rfl) rfl (op_append (z := (b8 (0#8))) (size := 1) (bytes := 1) 0 rfl Try.underlying24 (by kernel_rfl) (by kernel_rfl) (by decide) (src_full (z := 1) 2 rfl rfl sd sd) (by simp [Value.oneCell']) sd sd rfl rfl rfl rfl rfl (fun A64 C65 => ?_))
              refine T_as 0 (.row (.slice A64 (0 + ln + ni + 1) C65) 5 1 (0 + ln + ni + 1) ((((hkpc key info k) ++ info).map b8) ++ [(b8 (BitVec.ofNat 8 (k + 1)))])) (.row (.slice A64 (0 + ln + ni + 1) C65) 5 1 (0 + ln + ni + 1) ((((hkpc key info k) ++ info) ++ [(BitVec.ofNat 8 (k + 1))]).map b8)) rfl (by first | rfl | (congr 1; simp; done) | (simp only [List.map_append]; rfl) | (rw [List.map_append]; rfl)) ?_
              refine D_past (by kernel_rfl) ?_
              refine D_one 10 _ rfl (by kernel_rfl) rfl (op_call0 (vs := [(.slice (some ⟨g1, 0, none⟩) 32 32), (.slice A64 (0 + ln + ni + 1) C65)]) (cap := []) (fun w hw => rtag_f key (some ⟨g1, 0, none⟩) 32 32 (((hkpc key info k) ++ info) ++ [(BitVec.ofNat 8 (k + 1))]) A64 (0 + ln + ni + 1) C65 w (hok_cons ((src_full (z := 1) 5 rfl sd sd sd) w hw) (hok_cons ((src_row 0 rfl) w hw) (hok_nil w))) (by first | assumption | omega | (simp; done) | (simp; omega)) sd (by first | assumption | omega | (simp; done) | (simp; omega)) sd) (enters_of Try.func28 (by kernel_rfl) rfl) rfl rfl rfl rfl rfl (fun t66 q67 => ?_))
              refine T_slot 57 (.agg ((mactag key (((hkpc key info k) ++ info) ++ [(BitVec.ofNat 8 (k + 1))])).map b8).toArray) (.agg ((hkpc key info (k + 1)).map b8).toArray) rfl (by rw [hkpc_succ]) ?_
              refine D_past (by kernel_rfl) ?_
              refine D_one 12 _ rfl (by kernel_rfl) rfl (op_store (vs := ((hkpc key info (k + 1)).map b8)) (cs' := ((hkpc key info (k + 1)).map b8)) 1 rfl rfl (by rw [show (((hkpc key info (k + 1)).map b8)).length = 32 from sd]; kernel_rfl) (all8_one _) (by have h1 : (((List.replicate 32 0#8).map b8)).length = 32 := (by kernel_rfl); have h2 : (((hkpc key info (k + 1)).map b8)).length = 32 := sd; omega) (splice_all (Eq.trans (b := 32) (by kernel_rfl) (Eq.symm sd))) rfl rfl rfl rfl ?_)
              refine D_past (by kernel_rfl) ?_
              refine D_done (by kernel_rfl) ?_
              exact T_meet g61 trivial (sc rfl (sc rfl (sc rfl (sc rfl (sc rfl (sc rfl sn)))))) [0, 3, 4, 5, 6] ⟨by decide, rfl⟩
          · skip
            refine id (op_alloc (z := .agg ((List.replicate 32 0#8).map b8).toArray) (zs := ((List.replicate 32 0#8).map b8)) (by kernel_rfl) rfl rfl rfl rfl (fun g68 => ?_))
            refine D_past (by kernel_rfl) ?_
            refine D_all [4, 8] (by kernel_rfl) (by simp) ⟨⟨_, rfl, rfl, ?_⟩, ⟨_, rfl, rfl, ?_⟩, trivial⟩
            · skip
              refine id (op_append (z := (b8 (0#8))) (size := 1) (bytes := 1) 1 rfl Try.underlying24 (by kernel_rfl) (by kernel_rfl) (by decide) (src_rd 5 rfl) (all8_one _) sd sd rfl rfl rfl rfl rfl (fun A69 C70 => ?_))
              refine T_as 0 (.row (.slice A69 (0 + ln + ni) C70) 5 1 (0 + ln + ni) (((hkpc key info k).map b8) ++ (info.map b8))) (.row (.slice A69 (0 + ln + ni) C70) 5 1 (0 + ln + ni) (((hkpc key info k) ++ info).map b8)) rfl (by first | rfl | (congr 1; simp; done) | (simp only [List.map_append]; rfl) | (rw [List.map_append]; rfl)) ?_
              refine D_past (by kernel_rfl) ?_
              refine D_one 8 _ rfl (by kernel_rfl) rfl (op_bslice (e := 5) (zs := [(b8 (BitVec.ofNat 8 (k + 1)))]) (qs := [(0, (b8 (BitVec.ofNat 8 (k + 1))))]) (fun _ => by kernel_rfl) rfl rfl rfl rfl (fun g71 => ?_))
              refine D_past (by kernel_rfl) ?_
              refine D_one 9 _ rfl (by kernel_rfl) rfl (op_append (z := (b8 (0#8))) (size := 1) (bytes := 1) 1 rfl Try.underlying24 (by kernel_rfl) (by kernel_rfl) (by decide) (src_full (z := 1) 0 rfl rfl sd sd) (by simp [Value.oneCell']) sd sd rfl rfl rfl rfl rfl (fun A72 C73 => ?_))
              refine T_as 0 (.row (.slice A72 (0 + ln + ni + 1) C73) 5 1 (0 + ln + ni + 1) ((((hkpc key info k) ++ info).map b8) ++ [(b8 (BitVec.ofNat 8 (k + 1)))])) (.row (.slice A72 (0 + ln + ni + 1) C73) 5 1 (0 + ln + ni + 1) ((((hkpc key info k) ++ info) ++ [(BitVec.ofNat 8 (k + 1))]).map b8)) rfl (by first | rfl | (congr 1; simp; done) | (simp only [List.map_append]; rfl) | (rw [List.map_append]; rfl)) ?_
              refine D_past (by kernel_rfl) ?_
              refine D_one 10 _ rfl (by kernel_rfl) rfl (op_call0 (vs := [(.slice (some ⟨g1, 0, none⟩) 32 32), (.slice A72 (0 + ln + ni + 1) C73)]) (cap := []) (fun w hw => rtag_f key (some ⟨g1, 0, none⟩) 32 32 (((hkpc key info k) ++ info) ++ [(BitVec.ofNat 8 (k + 1))]) A72 (0 + ln + ni + 1) C73 w (hok_cons ((src_full (z := 1) 5 rfl sd sd sd) w hw) (hok_cons ((src_row 0 rfl) w hw) (hok_nil w))) (by first | assumption | omega | (simp; done) | (simp; omega)) sd (by first | assumption | omega | (simp; done) | (simp; omega)) sd) (enters_of Try.func28 (by kernel_rfl) rfl) rfl rfl rfl rfl rfl (fun t74 q75 => ?_))
              refine T_slot 57 (.agg ((mactag key (((hkpc key info k) ++ info) ++ [(BitVec.ofNat 8 (k + 1))])).map b8).toArray) (.agg ((hkpc key info (k + 1)).map b8).toArray) rfl (by rw [hkpc_succ]) ?_
              refine D_past (by kernel_rfl) ?_
              refine D_one 12 _ rfl (by kernel_rfl) rfl (op_store (vs := ((hkpc key info (k + 1)).map b8)) (cs' := ((hkpc key info (k + 1)).map b8)) 2 rfl rfl (by rw [show (((hkpc key info (k + 1)).map b8)).length = 32 from sd]; kernel_rfl) (all8_one _) (by have h1 : (((List.replicate 32 0#8).map b8)).length = 32 := (by kernel_rfl); have h2 : (((hkpc key info (k + 1)).map b8)).length = 32 := sd; omega) (splice_all (Eq.trans (b := 32) (by kernel_rfl) (Eq.symm sd))) rfl rfl rfl rfl ?_)
              refine D_past (by kernel_rfl) ?_
              refine D_done (by kernel_rfl) ?_
              exact T_meet g68 trivial (sc rfl (sc rfl (sc rfl (sc rfl (sc rfl (sc rfl sn)))))) [0, 3, 4, 5, 6] ⟨by decide, rfl⟩
            · skip
              refine id (op_bslice (e := 5) (zs := [(b8 (BitVec.ofNat 8 (k + 1)))]) (qs := [(0, (b8 (BitVec.ofNat 8 (k + 1))))]) (fun _ => by kernel_rfl) rfl rfl rfl rfl (fun g76 => ?_))
              refine D_past (by kernel_rfl) ?_
              refine D_one 4 _ rfl (by kernel_rfl) rfl (op_append (z := (b8 (0#8))) (size := 1) (bytes := 1) 2 rfl Try.underlying24 (by kernel_rfl) (by kernel_rfl) (by decide) (src_rd 6 rfl) (all8_one _) sd sd rfl rfl rfl rfl rfl (fun A77 C78 => ?_))
              refine T_as 0 (.row (.slice A77 (0 + ln + ni) C78) 5 1 (0 + ln + ni) (((hkpc key info k).map b8) ++ (info.map b8))) (.row (.slice A77 (0 + ln + ni) C78) 5 1 (0 + ln + ni) (((hkpc key info k) ++ info).map b8)) rfl (by first | rfl | (congr 1; simp; done) | (simp only [List.map_append]; rfl) | (rw [List.map_append]; rfl)) ?_
              refine D_past (by kernel_rfl) ?_
              refine D_one 9 _ rfl (by kernel_rfl) rfl (op_append (z := (b8 (0#8))) (size := 1) (bytes := 1) 0 rfl Try.underlying24 (by kernel_rfl) (by kernel_rfl) (by decide) (src_full (z := 1) 1 rfl rfl sd sd) (by simp [Value.oneCell']) sd sd rfl rfl rfl rfl rfl (fun A79 C80 => ?_))
              refine T_as 0 (.row (.slice A79 (0 + ln + ni + 1) C80) 5 1 (0 + ln + ni + 1) ((((hkpc key info k) ++ info).map b8) ++ [(b8 (BitVec.ofNat 8 (k + 1)))])) (.row (.slice A79 (0 + ln + ni + 1) C80) 5 1 (0 + ln + ni + 1) ((((hkpc key info k) ++ info) ++ [(BitVec.ofNat 8 (k + 1))]).map b8)) rfl (by first | rfl | (congr 1; simp; done) | (simp only [List.map_append]; rfl) | (rw [List.map_append]; rfl)) ?_
              refine D_past (by kernel_rfl) ?_
              refine D_one 10 _ rfl (by kernel_rfl) rfl (op_call0 (vs := [(.slice (some ⟨g1, 0, none⟩) 32 32), (.slice A79 (0 + ln + ni + 1) C80)]) (cap := []) (fun w hw => rtag_f key (some ⟨g1, 0, none⟩) 32 32 (((hkpc key info k) ++ info) ++ [(BitVec.ofNat 8 (k + 1))]) A79 (0 + ln + ni + 1) C80 w (hok_cons ((src_full (z := 1) 5 rfl sd sd sd) w hw) (hok_cons ((src_row 0 rfl) w hw) (hok_nil w))) (by first | assumption | omega | (simp; done) | (simp; omega)) sd (by first | assumption | omega | (simp; done) | (simp; omega)) sd) (enters_of Try.func28 (by kernel_rfl) rfl) rfl rfl rfl rfl rfl (fun t81 q82 => ?_))
              refine T_slot 57 (.agg ((mactag key (((hkpc key info k) ++ info) ++ [(BitVec.ofNat 8 (k + 1))])).map b8).toArray) (.agg ((hkpc key info (k + 1)).map b8).toArray) rfl (by rw [hkpc_succ]) ?_
              refine D_past (by kernel_rfl) ?_
              refine D_one 12 _ rfl (by kernel_rfl) rfl (op_store (vs := ((hkpc key info (k + 1)).map b8)) (cs' := ((hkpc key info (k + 1)).map b8)) 2 rfl rfl (by rw [show (((hkpc key info (k + 1)).map b8)).length = 32 from sd]; kernel_rfl) (all8_one _) (by have h1 : (((List.replicate 32 0#8).map b8)).length = 32 := (by kernel_rfl); have h2 : (((hkpc key info (k + 1)).map b8)).length = 32 := sd; omega) (splice_all (Eq.trans (b := 32) (by kernel_rfl) (Eq.symm sd))) rfl rfl rfl rfl ?_)
              refine D_past (by kernel_rfl) ?_
              refine D_done (by kernel_rfl) ?_
              exact T_meet g68 trivial (sc rfl (sc rfl (sc rfl (sc rfl (sc rfl (sc rfl sn)))))) [0, 3, 4, 5, 6] ⟨by decide, rfl⟩
        · skip
          refine id (op_bslice (e := 5) (zs := [(b8 (BitVec.ofNat 8 (k + 1)))]) (qs := [(0, (b8 (BitVec.ofNat 8 (k + 1))))]) (fun _ => by kernel_rfl) rfl rfl rfl rfl (fun g83 => ?_))
          refine D_on [1, 2, 3, 4] rfl ?_
          refine D_all [2, 11] (by kernel_rfl) (by simp) ⟨⟨_, rfl, rfl, ?_⟩, ⟨_, rfl, rfl, ?_⟩, trivial⟩
          · skip
            refine T_nilrow 5 1 ?_
            refine id (op_append (z := (b8 (0#8))) (size := 1) (bytes := 1) 0 rfl Try.underlying24 (by kernel_rfl) (by kernel_rfl) (by decide) (src_rd 2 rfl) (all8_one _) sd sd rfl rfl rfl rfl rfl (fun A84 C85 => ?_))
            refine T_as 0 (.row (.slice A84 (0 + ln) C85) 5 1 (0 + ln) ([] ++ ((hkpc key info k).map b8))) (.row (.slice A84 (0 + ln) C85) 5 1 (0 + ln) ((hkpc key info k).map b8)) rfl (by first | rfl | (congr 1; simp; done) | (simp only [List.map_append]; rfl) | (rw [List.map_append]; rfl)) ?_
            refine D_past (by kernel_rfl) ?_
            refine D_all [4, 11] (by kernel_rfl) (by simp) ⟨⟨_, rfl, rfl, ?_⟩, ⟨_, rfl, rfl, ?_⟩, trivial⟩
            · skip
              refine id (op_append (z := (b8 (0#8))) (size := 1) (bytes := 1) 0 rfl Try.underlying24 (by kernel_rfl) (by kernel_rfl) (by decide) (src_rd 5 rfl) (all8_one _) sd sd rfl rfl rfl rfl rfl (fun A86 C87 => ?_))
              refine T_as 0 (.row (.slice A86 (0 + ln + ni) C87) 5 1 (0 + ln + ni) (((hkpc key info k).map b8) ++ (info.map b8))) (.row (.slice A86 (0 + ln + ni) C87) 5 1 (0 + ln + ni) (((hkpc key info k) ++ info).map b8)) rfl (by first | rfl | (congr 1; simp; done) | (simp only [List.map_append]; rfl) | (rw [List.map_append]; rfl)) ?_
              refine D_past (by kernel_rfl) ?_
              refine D_all [9, 11] (by kernel_rfl) (by simp) ⟨⟨_, rfl, rfl, ?_⟩, ⟨_, rfl, rfl, ?_⟩, trivial⟩
              · skip
                refine id (op_append (z := (b8 (0#8))) (size := 1) (bytes := 1) 0 rfl Try.underlying24 (by kernel_rfl) (by kernel_rfl) (by decide) (src_full (z := 1) 1 rfl rfl sd sd) (by simp [Value.oneCell']) sd sd rfl rfl rfl rfl rfl (fun A88 C89 => ?_))
                refine T_as 0 (.row (.slice A88 (0 + ln + ni + 1) C89) 5 1 (0 + ln + ni + 1) ((((hkpc key info k) ++ info).map b8) ++ [(b8 (BitVec.ofNat 8 (k + 1)))])) (.row (.slice A88 (0 + ln + ni + 1) C89) 5 1 (0 + ln + ni + 1) ((((hkpc key info k) ++ info) ++ [(BitVec.ofNat 8 (k + 1))]).map b8)) rfl (by first | rfl | (congr 1; simp; done) | (simp only [List.map_append]; rfl) | (rw [List.map_append]; rfl)) ?_
                refine D_past (by kernel_rfl) ?_
                refine D_all [10, 11] (by kernel_rfl) (by simp) ⟨⟨_, rfl, rfl, ?_⟩, ⟨_, rfl, rfl, ?_⟩, trivial⟩
                · skip
                  refine id (op_call0 (vs := [(.slice (some ⟨g1, 0, none⟩) 32 32), (.slice A88 (0 + ln + ni + 1) C89)]) (cap := []) (fun w hw => rtag_f key (some ⟨g1, 0, none⟩) 32 32 (((hkpc key info k) ++ info) ++ [(BitVec.ofNat 8 (k + 1))]) A88 (0 + ln + ni + 1) C89 w (hok_cons ((src_full (z := 1) 4 rfl sd sd sd) w hw) (hok_cons ((src_row 0 rfl) w hw) (hok_nil w))) (by first | assumption | omega | (simp; done) | (simp; omega)) sd (by first | assumption | omega | (simp; done) | (simp; omega)) sd) (enters_of Try.func28 (by kernel_rfl) rfl) rfl rfl rfl rfl rfl (fun t90 q91 => ?_))
                  refine T_slot 57 (.agg ((mactag key (((hkpc key info k) ++ info) ++ [(BitVec.ofNat 8 (k + 1))])).map b8).toArray) (.agg ((hkpc key info (k + 1)).map b8).toArray) rfl (by rw [hkpc_succ]) ?_
                  refine D_past (by kernel_rfl) ?_
                  refine D_one 11 _ rfl (by kernel_rfl) rfl (op_alloc (z := .agg ((List.replicate 32 0#8).map b8).toArray) (zs := ((List.replicate 32 0#8).map b8)) (by kernel_rfl) rfl rfl rfl rfl (fun g92 => ?_))
                  refine D_past (by kernel_rfl) ?_
                  refine D_one 12 _ rfl (by kernel_rfl) rfl (op_store (vs := ((hkpc key info (k + 1)).map b8)) (cs' := ((hkpc key info (k + 1)).map b8)) 0 rfl rfl (by rw [show (((hkpc key info (k + 1)).map b8)).length = 32 from sd]; kernel_rfl) (all8_one _) (by have h1 : (((List.replicate 32 0#8).map b8)).length = 32 := (by kernel_rfl); have h2 : (((hkpc key info (k + 1)).map b8)).length = 32 := sd; omega) (splice_all (Eq.trans (b := 32) (by kernel_rfl) (Eq.symm sd))) rfl rfl rfl rfl ?_)
                  refine D_past (by kernel_rfl) ?_
                  refine D_done (by kernel_rfl) ?_
                  exact T_meet g92 trivial (sc rfl (sc rfl (sc rfl (sc rfl (sc rfl (sc rfl sn)))))) [0, 3, 4, 5, 6] ⟨by decide, rfl⟩
                · skip
                  refine id (op_alloc (z := .agg ((List.replicate 32 0#8).map b8).toArray) (zs := ((List.replicate 32 0#8).map b8)) (by kernel_rfl) rfl rfl rfl rfl (fun g93 => ?_))
                  refine D_past (by kernel_rfl) ?_
                  refine D_one 10 _ rfl (by kernel_rfl) rfl (op_call0 (vs := [(.slice (some ⟨g1, 0, none⟩) 32 32), (.slice A88 (0 + ln + ni + 1) C89)]) (cap := []) (fun w hw => rtag_f key (some ⟨g1, 0, none⟩) 32 32 (((hkpc key info k) ++ info) ++ [(BitVec.ofNat 8 (k + 1))]) A88 (0 + ln + ni + 1) C89 w (hok_cons ((src_full (z := 1) 5 rfl sd sd sd) w hw) (hok_cons ((src_row 1 rfl) w hw) (hok_nil w))) (by first | assumption | omega | (simp; done) | (simp; omega)) sd (by first | assumption | omega | (simp; done) | (simp; omega)) sd) (enters_of Try.func28 (by kernel_rfl) rfl) rfl rfl rfl rfl rfl (fun t94 q95 => ?_))
                  refine T_slot 57 (.agg ((mactag key (((hkpc key info k) ++ info) ++ [(BitVec.ofNat 8 (k + 1))])).map b8).toArray) (.agg ((hkpc key info (k + 1)).map b8).toArray) rfl (by rw [hkpc_succ]) ?_
                  refine D_past (by kernel_rfl) ?_
                  refine D_one 12 _ rfl (by kernel_rfl) rfl (op_store (vs := ((hkpc key info (k + 1)).map b8)) (cs' := ((hkpc key info (k + 1)).map b8)) 0 rfl rfl (by rw [show (((hkpc key info (k + 1)).map b8)).length = 32 from sd]; kernel_rfl) (all8_one _) (by have h1 : (((List.replicate 32 0#8).map b8)).length = 32 := (by kernel_rfl); have h2 : (((hkpc key info (k + 1)).map b8)).length = 32 := sd; omega) (splice_all (Eq.trans (b := 32) (by kernel_rfl) (Eq.symm sd))) rfl rfl rfl rfl ?_)
                  refine D_past (by kernel_rfl) ?_
                  refine D_done (by kernel_rfl) ?_
                  exact T_meet g93 trivial (sc rfl (sc rfl (sc rfl (sc rfl (sc rfl (sc rfl sn)))))) [0, 3, 4, 5, 6] ⟨by decide, rfl⟩
              · skip
                refine id (op_alloc (z := .agg ((List.replicate 32 0#8).map b8).toArray) (zs := ((List.replicate 32 0#8).map b8)) (by kernel_rfl) rfl rfl rfl rfl (fun g96 => ?_))
                refine D_past (by kernel_rfl) ?_
                refine D_one 9 _ rfl (by kernel_rfl) rfl (op_append (z := (b8 (0#8))) (size := 1) (bytes := 1) 1 rfl Try.underlying24 (by kernel_rfl) (by kernel_rfl) (by decide) (src_full (z := 1) 2 rfl rfl sd sd) (by simp [Value.oneCell']) sd sd rfl rfl rfl rfl rfl (fun A97 C98 => ?_))
                refine T_as 0 (.row (.slice A97 (0 + ln + ni + 1) C98) 5 1 (0 + ln + ni + 1) ((((hkpc key info k) ++ info).map b8) ++ [(b8 (BitVec.ofNat 8 (k + 1)))])) (.row (.slice A97 (0 + ln + ni + 1) C98) 5 1 (0 + ln + ni + 1) ((((hkpc key info k) ++ info) ++ [(BitVec.ofNat 8 (k + 1))]).map b8)) rfl (by first | rfl | (congr 1; simp; done) | (simp only [List.map_append]; rfl) | (rw [List.map_append]; rfl)) ?_
                refine D_past (by kernel_rfl) ?_
                refine D_one 10 _ rfl (by kernel_rfl) rfl (op_call0 (vs := [(.slice (some ⟨g1, 0, none⟩) 32 32), (.slice A97 (0 + ln + ni + 1) C98)]) (cap := []) (fun w hw => rtag_f key (some ⟨g1, 0, none⟩) 32 32 (((hkpc key info k) ++ info) ++ [(BitVec.ofNat 8 (k + 1))]) A97 (0 + ln + ni + 1) C98 w (hok_cons ((src_full (z := 1) 5 rfl sd sd sd) w hw) (hok_cons ((src_row 0 rfl) w hw) (hok_nil w))) (by first | assumption | omega | (simp; done) | (simp; omega)) sd (by first | assumption | omega | (simp; done) | (simp; omega)) sd) (enters_of Try.func28 (by kernel_rfl) rfl) rfl rfl rfl rfl rfl (fun t99 q100 => ?_))
                refine T_slot 57 (.agg ((mactag key (((hkpc key info k) ++ info) ++ [(BitVec.ofNat 8 (k + 1))])).map b8).toArray) (.agg ((hkpc key info (k + 1)).map b8).toArray) rfl (by rw [hkpc_succ]) ?_
                refine D_past (by kernel_rfl) ?_
                refine D_one 12 _ rfl (by kernel_rfl) rfl (op_store (vs := ((hkpc key info (k + 1)).map b8)) (cs' := ((hkpc key info (k + 1)).map b8)) 1 rfl rfl (by rw [show (((hkpc key info (k + 1)).map b8)).length = 32 from sd]; kernel_rfl) (all8_one _) (by have h1 : (((List.replicate 32 0#8).map b8)).length = 32 := (by kernel_rfl); have h2 : (((hkpc key info (k + 1)).map b8)).length = 32 := sd; omega) (splice_all (Eq.trans (b := 32) (by kernel_rfl) (Eq.symm sd))) rfl rfl rfl rfl ?_)
                refine D_past (by kernel_rfl) ?_
                refine D_done (by kernel_rfl) ?_
                exact T_meet g96 trivial (sc rfl (sc rfl (sc rfl (sc rfl (sc rfl (sc rfl sn)))))) [0, 3, 4, 5, 6] ⟨by decide, rfl⟩
            · skip
              refine id (op_alloc (z := .agg ((List.replicate 32 0#8).map b8).toArray) (zs := ((List.replicate 32 0#8).map b8)) (by kernel_rfl) rfl rfl rfl rfl (fun g101 => ?_))
              refine D_past (by kernel_rfl) ?_
              refine D_one 4 _ rfl (by kernel_rfl) rfl (op_append (z := (b8 (0#8))) (size := 1) (bytes := 1) 1 rfl Try.underlying24 (by kernel_rfl) (by kernel_rfl) (by decide) (src_rd 6 rfl) (all8_one _) sd sd rfl rfl rfl rfl rfl (fun A102 C103 => ?_))
              refine T_as 0 (.row (.slice A102 (0 + ln + ni) C103) 5 1 (0 + ln + ni) (((hkpc key info k).map b8) ++ (info.map b8))) (.row (.slice A102 (0 + ln + ni) C103) 5 1 (0 + ln + ni) (((hkpc key info k) ++ info).map b8)) rfl (by first | rfl | (congr 1; simp; done) | (simp only [List.map_append]; rfl) | (rw [List.map_append]; rfl)) ?_
              refine D_past (by kernel_rfl) ?_
              refine D_one 9 _ rfl (by kernel_rfl) rfl (op_append (z := (b8 (0#8))) (size := 1) (bytes := 1) 0 rfl Try.underlying24 (by kernel_rfl) (by kernel_rfl) (by decide) (src_full (z := 1) 2 rfl rfl sd sd) (by simp [Value.oneCell']) sd sd rfl rfl rfl rfl rfl (fun A104 C105 => ?_))
              refine T_as 0 (.row (.slice A104 (0 + ln + ni + 1) C105) 5 1 (0 + ln + ni + 1) ((((hkpc key info k) ++ info).map b8) ++ [(b8 (BitVec.ofNat 8 (k + 1)))])) (.row (.slice A104 (0 + ln + ni + 1) C105) 5 1 (0 + ln + ni + 1) ((((hkpc key info k) ++ info) ++ [(BitVec.ofNat 8 (k + 1))]).map b8)) rfl (by first | rfl | (congr 1; simp; done) | (simp only [List.map_append]; rfl) | (rw [List.map_append]; rfl)) ?_
              refine D_past (by kernel_rfl) ?_
              refine D_one 10 _ rfl (by kernel_rfl) rfl (op_call0 (vs := [(.slice (some ⟨g1, 0, none⟩) 32 32), (.slice A104 (0 + ln + ni + 1) C105)]) (cap := []) (fun w hw => rtag_f key (some ⟨g1, 0, none⟩) 32 32 (((hkpc key info k) ++ info) ++ [(BitVec.ofNat 8 (k + 1))]) A104 (0 + ln + ni + 1) C105 w (hok_cons ((src_full (z := 1) 5 rfl sd sd sd) w hw) (hok_cons ((src_row 0 rfl) w hw) (hok_nil w))) (by first | assumption | omega | (simp; done) | (simp; omega)) sd (by first | assumption | omega | (simp; done) | (simp; omega)) sd) (enters_of Try.func28 (by kernel_rfl) rfl) rfl rfl rfl rfl rfl (fun t106 q107 => ?_))
              refine T_slot 57 (.agg ((mactag key (((hkpc key info k) ++ info) ++ [(BitVec.ofNat 8 (k + 1))])).map b8).toArray) (.agg ((hkpc key info (k + 1)).map b8).toArray) rfl (by rw [hkpc_succ]) ?_
              refine D_past (by kernel_rfl) ?_
              refine D_one 12 _ rfl (by kernel_rfl) rfl (op_store (vs := ((hkpc key info (k + 1)).map b8)) (cs' := ((hkpc key info (k + 1)).map b8)) 1 rfl rfl (by rw [show (((hkpc key info (k + 1)).map b8)).length = 32 from sd]; kernel_rfl) (all8_one _) (by have h1 : (((List.replicate 32 0#8).map b8)).length = 32 := (by kernel_rfl); have h2 : (((hkpc key info (k + 1)).map b8)).length = 32 := sd; omega) (splice_all (Eq.trans (b := 32) (by kernel_rfl) (Eq.symm sd))) rfl rfl rfl rfl ?_)
              refine D_past (by kernel_rfl) ?_
              refine D_done (by kernel_rfl) ?_
              exact T_meet g101 trivial (sc rfl (sc rfl (sc rfl (sc rfl (sc rfl (sc rfl sn)))))) [0, 3, 4, 5, 6] ⟨by decide, rfl⟩
          · skip
            refine id (op_alloc (z := .agg ((List.replicate 32 0#8).map b8).toArray) (zs := ((List.replicate 32 0#8).map b8)) (by kernel_rfl) rfl rfl rfl rfl (fun g108 => ?_))
            refine D_on [2, 3, 4, 5] rfl ?_
            refine T_nilrow 5 1 ?_
            refine D_one 2 _ rfl (by kernel_rfl) rfl (op_append (z := (b8 (0#8))) (size := 1) (bytes := 1) 0 rfl Try.underlying24 (by kernel_rfl) (by kernel_rfl) (by decide) (src_rd 3 rfl) (all8_one _) sd sd rfl rfl rfl rfl rfl (fun A109 C110 => ?_))
            refine T_as 0 (.row (.slice A109 (0 + ln) C110) 5 1 (0 + ln) ([] ++ ((hkpc key info k).map b8))) (.row (.slice A109 (0 + ln) C110) 5 1 (0 + ln) ((hkpc key info k).map b8)) rfl (by first | rfl | (congr 1; simp; done) | (simp only [List.map_append]; rfl) | (rw [List.map_append]; rfl)) ?_
            refine D_past (by kernel_rfl) ?_
            refine D_one 4 _ rfl (by kernel_rfl) rfl (op_append (z := (b8 (0#8))) (size := 1) (bytes := 1) 0 rfl Try.underlying24 (by kernel_rfl) (by kernel_rfl) (by decide) (src_rd 6 rfl) (all8_one _) sd sd rfl rfl rfl rfl rfl (fun A111 C112 => ?_))
            refine T_as 0 (.row (.slice A111 (0 + ln + ni) C112) 5 1 (0 + ln + ni) (((hkpc key info k).map b8) ++ (info.map b8))) (.row (.slice A111 (0 + ln + ni) C112) 5 1 (0 + ln + ni) (((hkpc key info k) ++ info).map b8)) rfl (by first | rfl | (congr 1; simp; done) | (simp only [List.map_append]; rfl) | (rw [List.map_append]; rfl)) ?_
            refine D_past (by kernel_rfl) ?_
            refine D_one 9 _ rfl (by kernel_rfl) rfl (op_append (z := (b8 (0#8))) (size := 1) (bytes := 1) 0 rfl Try.underlying24 (by kernel_rfl) (by kernel_rfl) (by decide) (src_full (z := 1) 2 rfl rfl sd sd) (by simp [Value.oneCell']) sd sd rfl rfl rfl rfl rfl (fun A113 C114 => ?_))
            refine T_as 0 (.row (.slice A113 (0 + ln + ni + 1) C114) 5 1 (0 + ln + ni + 1) ((((hkpc key info k) ++ info).map b8) ++ [(b8 (BitVec.ofNat 8 (k + 1)))])) (.row (.slice A113 (0 + ln + ni + 1) C114) 5 1 (0 + ln + ni + 1) ((((hkpc key info k) ++ info) ++ [(BitVec.ofNat 8 (k + 1))]).map b8)) rfl (by first | rfl | (congr 1; simp; done) | (simp only [List.map_append]; rfl) | (rw [List.map_append]; rfl)) ?_
            refine D_past (by kernel_rfl) ?_
            refine D_one 10 _ rfl (by kernel_rfl) rfl (op_call0 (vs := [(.slice (some ⟨g1, 0, none⟩) 32 32), (.slice A113 (0 + ln + ni + 1) C114)]) (cap := []) (fun w hw => rtag_f key (some ⟨g1, 0, none⟩) 32 32 (((hkpc key info k) ++ info) ++ [(BitVec.ofNat 8 (k + 1))]) A113 (0 + ln + ni + 1) C114 w (hok_cons ((src_full (z := 1) 5 rfl sd sd sd) w hw) (hok_cons ((src_row 0 rfl) w hw) (hok_nil w))) (by first | assumption | omega | (simp; done) | (simp; omega)) sd (by first | assumption | omega | (simp; done) | (simp; omega)) sd) (enters_of Try.func28 (by kernel_rfl) rfl) rfl rfl rfl rfl rfl (fun t115 q116 => ?_))
            refine T_slot 57 (.agg ((mactag key (((hkpc key info k) ++ info) ++ [(BitVec.ofNat 8 (k + 1))])).map b8).toArray) (.agg ((hkpc key info (k + 1)).map b8).toArray) rfl (by rw [hkpc_succ]) ?_
            refine D_past (by kernel_rfl) ?_
            refine D_one 12 _ rfl (by kernel_rfl) rfl (op_store (vs := ((hkpc key info (k + 1)).map b8)) (cs' := ((hkpc key info (k + 1)).map b8)) 1 rfl rfl (by rw [show (((hkpc key info (k + 1)).map b8)).length = 32 from sd]; kernel_rfl) (all8_one _) (by have h1 : (((List.replicate 32 0#8).map b8)).length = 32 := (by kernel_rfl); have h2 : (((hkpc key info (k + 1)).map b8)).length = 32 := sd; omega) (splice_all (Eq.trans (b := 32) (by kernel_rfl) (Eq.symm sd))) rfl rfl rfl rfl ?_)
            refine D_past (by kernel_rfl) ?_
            refine D_done (by kernel_rfl) ?_
            exact T_meet g108 trivial (sc rfl (sc rfl (sc rfl (sc rfl (sc rfl (sc rfl sn)))))) [0, 3, 4, 5, 6] ⟨by decide, rfl⟩
        · skip
          refine id (op_alloc (z := .agg ((List.replicate 32 0#8).map b8).toArray) (zs := ((List.replicate 32 0#8).map b8)) (by kernel_rfl) rfl rfl rfl rfl (fun g117 => ?_))
          refine D_on [1, 2, 3, 4] rfl ?_
          refine D_all [2, 8] (by kernel_rfl) (by simp) ⟨⟨_, rfl, rfl, ?_⟩, ⟨_, rfl, rfl, ?_⟩, trivial⟩
          · skip
            refine T_nilrow 5 1 ?_
            refine id (op_append (z := (b8 (0#8))) (size := 1) (bytes := 1) 0 rfl Try.underlying24 (by kernel_rfl) (by kernel_rfl) (by decide) (src_rd 2 rfl) (all8_one _) sd sd rfl rfl rfl rfl rfl (fun A118 C119 => ?_))
            refine T_as 0 (.row (.slice A118 (0 + ln) C119) 5 1 (0 + ln) ([] ++ ((hkpc key info k).map b8))) (.row (.slice A118 (0 + ln) C119) 5 1 (0 + ln) ((hkpc key info k).map b8)) rfl (by first | rfl | (congr 1; simp; done) | (simp only [List.map_append]; rfl) | (rw [List.map_append]; rfl)) ?_
            refine D_past (by kernel_rfl) ?_
            refine D_all [4, 8] (by kernel_rfl) (by simp) ⟨⟨_, rfl, rfl, ?_⟩, ⟨_, rfl, rfl, ?_⟩, trivial⟩
            · skip
              refine id (op_append (z := (b8 (0#8))) (size := 1) (bytes := 1) 0 rfl Try.underlying24 (by kernel_rfl) (by kernel_rfl) (by decide) (src_rd 5 rfl) (all8_one _) sd sd rfl rfl rfl rfl rfl (fun A120 C121 => ?_))
              refine T_as 0 (.row (.slice A120 (0 + ln + ni) C121) 5 1 (0 + ln + ni) (((hkpc key info k).map b8) ++ (info.map b8))) (.row (.slice A120 (0 + ln + ni) C121) 5 1 (0 + ln + ni) (((hkpc key info k) ++ info).map b8)) rfl (by first | rfl | (congr 1; simp; done) | (simp only [List.map_append]; rfl) | (rw [List.map_append]; rfl)) ?_
              refine D_past (by kernel_rfl) ?_
              refine D_one 8 _ rfl (by kernel_rfl) rfl (op_bslice (e := 5) (zs := [(b8 (BitVec.ofNat 8 (k + 1)))]) (qs := [(0, (b8 (BitVec.ofNat 8 (k + 1))))]) (fun _ => by kernel_rfl) rfl rfl rfl rfl (fun g122 => ?_))
              refine D_past (by kernel_rfl) ?_
              refine D_one 9 _ rfl (by kernel_rfl) rfl (op_append (z := (b8 (0#8))) (size := 1) (bytes := 1) 1 rfl Try.underlying24 (by kernel_rfl) (by kernel_rfl) (by decide) (src_full (z := 1) 0 rfl rfl sd sd) (by simp [Value.oneCell']) sd sd rfl rfl rfl rfl rfl (fun A123 C124 => ?_))
              refine T_as 0 (.row (.slice A123 (0 + ln + ni + 1) C124) 5 1 (0 + ln + ni + 1) ((((hkpc key info k) ++ info).map b8) ++ [(b8 (BitVec.ofNat 8 (k + 1)))])) (.row (.slice A123 (0 + ln + ni + 1) C124) 5 1 (0 + ln + ni + 1) ((((hkpc key info k) ++ info) ++ [(BitVec.ofNat 8 (k + 1))]).map b8)) rfl (by first | rfl | (congr 1; simp; done) | (simp only [List.map_append]; rfl) | (rw [List.map_append]; rfl)) ?_
              refine D_past (by kernel_rfl) ?_
              refine D_one 10 _ rfl (by kernel_rfl) rfl (op_call0 (vs := [(.slice (some ⟨g1, 0, none⟩) 32 32), (.slice A123 (0 + ln + ni + 1) C124)]) (cap := []) (fun w hw => rtag_f key (some ⟨g1, 0, none⟩) 32 32 (((hkpc key info k) ++ info) ++ [(BitVec.ofNat 8 (k + 1))]) A123 (0 + ln + ni + 1) C124 w (hok_cons ((src_full (z := 1) 5 rfl sd sd sd) w hw) (hok_cons ((src_row 0 rfl) w hw) (hok_nil w))) (by first | assumption | omega | (simp; done) | (simp; omega)) sd (by first | assumption | omega | (simp; done) | (simp; omega)) sd) (enters_of Try.func28 (by kernel_rfl) rfl) rfl rfl rfl rfl rfl (fun t125 q126 => ?_))
              refine T_slot 57 (.agg ((mactag key (((hkpc key info k) ++ info) ++ [(BitVec.ofNat 8 (k + 1))])).map b8).toArray) (.agg ((hkpc key info (k + 1)).map b8).toArray) rfl (by rw [hkpc_succ]) ?_
              refine D_past (by kernel_rfl) ?_
              refine D_one 12 _ rfl (by kernel_rfl) rfl (op_store (vs := ((hkpc key info (k + 1)).map b8)) (cs' := ((hkpc key info (k + 1)).map b8)) 2 rfl rfl (by rw [show (((hkpc key info (k + 1)).map b8)).length = 32 from sd]; kernel_rfl) (all8_one _) (by have h1 : (((List.replicate 32 0#8).map b8)).length = 32 := (by kernel_rfl); have h2 : (((hkpc key info (k + 1)).map b8)).length = 32 := sd; omega) (splice_all (Eq.trans (b := 32) (by kernel_rfl) (Eq.symm sd))) rfl rfl rfl rfl ?_)
              refine D_past (by kernel_rfl) ?_
              refine D_done (by kernel_rfl) ?_
              exact T_meet g117 trivial (sc rfl (sc rfl (sc rfl (sc rfl (sc rfl (sc rfl sn)))))) [0, 3, 4, 5, 6] ⟨by decide, rfl⟩
            · skip
              refine id (op_bslice (e := 5) (zs := [(b8 (BitVec.ofNat 8 (k + 1)))]) (qs := [(0, (b8 (BitVec.ofNat 8 (k + 1))))]) (fun _ => by kernel_rfl) rfl rfl rfl rfl (fun g127 => ?_))
              refine D_past (by kernel_rfl) ?_
              refine D_one 4 _ rfl (by kernel_rfl) rfl (op_append (z := (b8 (0#8))) (size := 1) (bytes := 1) 1 rfl Try.underlying24 (by kernel_rfl) (by kernel_rfl) (by decide) (src_rd 6 rfl) (all8_one _) sd sd rfl rfl rfl rfl rfl (fun A128 C129 => ?_))
              refine T_as 0 (.row (.slice A128 (0 + ln + ni) C129) 5 1 (0 + ln + ni) (((hkpc key info k).map b8) ++ (info.map b8))) (.row (.slice A128 (0 + ln + ni) C129) 5 1 (0 + ln + ni) (((hkpc key info k) ++ info).map b8)) rfl (by first | rfl | (congr 1; simp; done) | (simp only [List.map_append]; rfl) | (rw [List.map_append]; rfl)) ?_
              refine D_past (by kernel_rfl) ?_
              refine D_one 9 _ rfl (by kernel_rfl) rfl (op_append (z := (b8 (0#8))) (size := 1) (bytes := 1) 0 rfl Try.underlying24 (by kernel_rfl) (by kernel_rfl) (by decide) (src_full (z := 1) 1 rfl rfl sd sd) (by simp [Value.oneCell']) sd sd rfl rfl rfl rfl rfl (fun A130 C131 => ?_))
              refine T_as 0 (.row (.slice A130 (0 + ln + ni + 1) C131) 5 1 (0 + ln + ni + 1) ((((hkpc key info k) ++ info).map b8) ++ [(b8 (BitVec.ofNat 8 (k + 1)))])) (.row (.slice A130 (0 + ln + ni + 1) C131) 5 1 (0 + ln + ni + 1) ((((hkpc key info k) ++ info) ++ [(BitVec.ofNat 8 (k + 1))]).map b8)) rfl (by first | rfl | (congr 1; simp; done) | (simp only [List.map_append]; rfl) | (rw [List.map_append]; rfl)) ?_
              refine D_past (by kernel_rfl) ?_
              refine D_one 10 _ rfl (by kernel_rfl) rfl (op_call0 (vs := [(.slice (some ⟨g1, 0, none⟩) 32 32), (.slice A130 (0 + ln + ni + 1) C131)]) (cap := []) (fun w hw => rtag_f key (some ⟨g1, 0, none⟩) 32 32 (((hkpc key info k) ++ info) ++ [(BitVec.ofNat 8 (k + 1))]) A130 (0 + ln + ni + 1) C131 w (hok_cons ((src_full (z := 1) 5 rfl sd sd sd) w hw) (hok_cons ((src_row 0 rfl) w hw) (hok_nil w))) (by first | assumption | omega | (simp; done) | (simp; omega)) sd (by first | assumption | omega | (simp; done) | (simp; omega)) sd) (enters_of Try.func28 (by kernel_rfl) rfl) rfl rfl rfl rfl rfl (fun t132 q133 => ?_))
              refine T_slot 57 (.agg ((mactag key (((hkpc key info k) ++ info) ++ [(BitVec.ofNat 8 (k + 1))])).map b8).toArray) (.agg ((hkpc key info (k + 1)).map b8).toArray) rfl (by rw [hkpc_succ]) ?_
              refine D_past (by kernel_rfl) ?_
              refine D_one 12 _ rfl (by kernel_rfl) rfl (op_store (vs := ((hkpc key info (k + 1)).map b8)) (cs' := ((hkpc key info (k + 1)).map b8)) 2 rfl rfl (by rw [show (((hkpc key info (k + 1)).map b8)).length = 32 from sd]; kernel_rfl) (all8_one _) (by have h1 : (((List.replicate 32 0#8).map b8)).length = 32 := (by kernel_rfl); have h2 : (((hkpc key info (k + 1)).map b8)).length = 32 := sd; omega) (splice_all (Eq.trans (b := 32) (by kernel_rfl) (Eq.symm sd))) rfl rfl rfl rfl ?_)
              refine D_past (by kernel_rfl) ?_
              refine D_done (by kernel_rfl) ?_
              exact T_meet g117 trivial (sc rfl (sc rfl (sc rfl (sc rfl (sc rfl (sc rfl sn)))))) [0, 3, 4, 5, 6] ⟨by decide, rfl⟩
          · skip
            refine id (op_bslice (e := 5) (zs := [(b8 (BitVec.ofNat 8 (k + 1)))]) (qs := [(0, (b8 (BitVec.ofNat 8 (k + 1))))]) (fun _ => by kernel_rfl) rfl rfl rfl rfl (fun g134 => ?_))
            refine D_on [2, 3, 4, 5] rfl ?_
            refine T_nilrow 5 1 ?_
            refine D_one 2 _ rfl (by kernel_rfl) rfl (op_append (z := (b8 (0#8))) (size := 1) (bytes := 1) 0 rfl Try.underlying24 (by kernel_rfl) (by kernel_rfl) (by decide) (src_rd 3 rfl) (all8_one _) sd sd rfl rfl rfl rfl rfl (fun A135 C136 => ?_))
            refine T_as 0 (.row (.slice A135 (0 + ln) C136) 5 1 (0 + ln) ([] ++ ((hkpc key info k).map b8))) (.row (.slice A135 (0 + ln) C136) 5 1 (0 + ln) ((hkpc key info k).map b8)) rfl (by first | rfl | (congr 1; simp; done) | (simp only [List.map_append]; rfl) | (rw [List.map_append]; rfl)) ?_
            refine D_past (by kernel_rfl) ?_
            refine D_one 4 _ rfl (by kernel_rfl) rfl (op_append (z := (b8 (0#8))) (size := 1) (bytes := 1) 0 rfl Try.underlying24 (by kernel_rfl) (by kernel_rfl) (by decide) (src_rd 6 rfl) (all8_one _) sd sd rfl rfl rfl rfl rfl (fun A137 C138 => ?_))
            refine T_as 0 (.row (.slice A137 (0 + ln + ni) C138) 5 1 (0 + ln + ni) (((hkpc key info k).map b8) ++ (info.map b8))) (.row (.slice A137 (0 + ln + ni) C138) 5 1 (0 + ln + ni) (((hkpc key info k) ++ info).map b8)) rfl (by first | rfl | (congr 1; simp; done) | (simp only [List.map_append]; rfl) | (rw [List.map_append]; rfl)) ?_
            refine D_past (by kernel_rfl) ?_
            refine D_one 9 _ rfl (by kernel_rfl) rfl (op_append (z := (b8 (0#8))) (size := 1) (bytes := 1) 0 rfl Try.underlying24 (by kernel_rfl) (by kernel_rfl) (by decide) (src_full (z := 1) 1 rfl rfl sd sd) (by simp [Value.oneCell']) sd sd rfl rfl rfl rfl rfl (fun A139 C140 => ?_))
            refine T_as 0 (.row (.slice A139 (0 + ln + ni + 1) C140) 5 1 (0 + ln + ni + 1) ((((hkpc key info k) ++ info).map b8) ++ [(b8 (BitVec.ofNat 8 (k + 1)))])) (.row (.slice A139 (0 + ln + ni + 1) C140) 5 1 (0 + ln + ni + 1) ((((hkpc key info k) ++ info) ++ [(BitVec.ofNat 8 (k + 1))]).map b8)) rfl (by first | rfl | (congr 1; simp; done) | (simp only [List.map_append]; rfl) | (rw [List.map_append]; rfl)) ?_
            refine D_past (by kernel_rfl) ?_
            refine D_one 10 _ rfl (by kernel_rfl) rfl (op_call0 (vs := [(.slice (some ⟨g1, 0, none⟩) 32 32), (.slice A139 (0 + ln + ni + 1) C140)]) (cap := []) (fun w hw => rtag_f key (some ⟨g1, 0, none⟩) 32 32 (((hkpc key info k) ++ info) ++ [(BitVec.ofNat 8 (k + 1))]) A139 (0 + ln + ni + 1) C140 w (hok_cons ((src_full (z := 1) 5 rfl sd sd sd) w hw) (hok_cons ((src_row 0 rfl) w hw) (hok_nil w))) (by first | assumption | omega | (simp; done) | (simp; omega)) sd (by first | assumption | omega | (simp; done) | (simp; omega)) sd) (enters_of Try.func28 (by kernel_rfl) rfl) rfl rfl rfl rfl rfl (fun t141 q142 => ?_))
            refine T_slot 57 (.agg ((mactag key (((hkpc key info k) ++ info) ++ [(BitVec.ofNat 8 (k + 1))])).map b8).toArray) (.agg ((hkpc key info (k + 1)).map b8).toArray) rfl (by rw [hkpc_succ]) ?_
            refine D_past (by kernel_rfl) ?_
            refine D_one 12 _ rfl (by kernel_rfl) rfl (op_store (vs := ((hkpc key info (k + 1)).map b8)) (cs' := ((hkpc key info (k + 1)).map b8)) 2 rfl rfl (by rw [show (((hkpc key info (k + 1)).map b8)).length = 32 from sd]; kernel_rfl) (all8_one _) (by have h1 : (((List.replicate 32 0#8).map b8)).length = 32 := (by kernel_rfl); have h2 : (((hkpc key info (k + 1)).map b8)).length = 32 := sd; omega) (splice_all (Eq.trans (b := 32) (by kernel_rfl) (Eq.symm sd))) rfl rfl rfl rfl ?_)
            refine D_past (by kernel_rfl) ?_
            refine D_done (by kernel_rfl) ?_
            exact T_meet g117 trivial (sc rfl (sc rfl (sc rfl (sc rfl (sc rfl (sc rfl sn)))))) [0, 3, 4, 5, 6] ⟨by decide, rfl⟩
      · rintro g20 -
        refine T_re [(1, (.slice A ni c)), (2, (.int .i64 ((n : Nat) : Int))), (3, (.pointer (some ⟨g1, 0, none⟩))), (7, (.slice B7 (32 * n) (32 * n))), (10, (.int .i64 ((k : Nat) : Int))), (11, (.pointer (some ⟨g20, 0, none⟩)))] (sc rfl (sc rfl (sc rfl (sc rfl (sc rfl (sc rfl sn)))))) ?_
        refine T_he [0, 1, 2, 3, 4] [.blk g20 26 ((hkpc key info (k + 1)).map b8), .rd lA 1 ln lc ((hkpc key info k).map b8), .rd B7 1 (32 * n) (32 * n) ((hkdf key info (32 * n)).map b8), .blk g1 26 (key.map b8), .rd A 1 ni c (info.map b8)] ⟨by decide, rfl⟩ ?_
        refine T_seq ?_
        refine T_reg hF rfl ?_
        refine L_op rfl (op_pr (pr_move rfl rfl) rfl rfl ?_)
        refine L_op rfl (op_pr (pr_move rfl rfl) rfl rfl ?_)
        refine L_op rfl (op_pr (pr_mul (nm_i64 (a := 32) (b := k) sd) rfl rfl rfl) rfl rfl ?_)
        refine L_op rfl (op_pr (pr_move rfl rfl) rfl rfl ?_)
        refine L_op rfl (op_pr (pr_mul (nm_i64 (a := 32) (b := k) sd) rfl rfl rfl) rfl rfl ?_)
        refine L_op rfl (op_pr (pr_add (na_i64 (a := 32 * k) (b := 32) sd) rfl rfl rfl) rfl rfl ?_)
        refine L_op rfl (op_slice_rd (l := 32 * k) (u := 32 * k + 32) 2 rfl sd sd Try.underlying24 (by kernel_rfl) rfl rfl ⟨_, rfl⟩ ⟨_, rfl⟩ rfl rfl (fun B143 => ?_))
        refine T_as 0 _ (.rd B143 1 ((32 * k + 32) - (32 * k)) ((32 * n) - (32 * k)) ((List.take ((32 * k + 32) - (32 * k)) (List.drop (32 * k) (hkdf key info (32 * n)))).map b8)) rfl (by congr 1; simp [List.map_take, List.map_drop] <;> omega) ?_
        refine L_op rfl (op_pr (pr_assign rfl rfl) rfl rfl ?_)
        refine L_nil ?_
        refine T_re [(1, (.slice A ni c)), (2, (.int .i64 ((n : Nat) : Int))), (3, (.pointer (some ⟨g1, 0, none⟩))), (7, (.slice B7 (32 * n) (32 * n))), (9, (.slice B143 ((32 * k + 32) - (32 * k)) ((32 * n) - (32 * k)))), (10, (.int .i64 ((k : Nat) : Int))), (11, (.pointer (some ⟨g20, 0, none⟩)))] (sc rfl (sc rfl (sc rfl (sc rfl (sc rfl (sc rfl (sc rfl sn))))))) ?_
        refine T_he [0, 1, 2, 3, 4, 5] [.rd B143 1 ((32 * k + 32) - (32 * k)) ((32 * n) - (32 * k)) ((List.take ((32 * k + 32) - (32 * k)) (List.drop (32 * k) (hkdf key info (32 * n)))).map b8), .blk g20 26 ((hkpc key info (k + 1)).map b8), .rd lA 1 ln lc ((hkpc key info k).map b8), .rd B7 1 (32 * n) (32 * n) ((hkdf key info (32 * n)).map b8), .blk g1 26 (key.map b8), .rd A 1 ni c (info.map b8)] ⟨by decide, rfl⟩ ?_
        refine T_seq ?_
        refine T_regD [.rd B143 1 ((32 * k + 32) - (32 * k)) ((32 * n) - (32 * k)) ((List.take ((32 * k + 32) - (32 * k)) (List.drop (32 * k) (hkdf key info (32 * n)))).map b8), .blk g20 26 ((hkpc key info (k + 1)).map b8), .rd lA 1 ln lc ((hkpc key info k).map b8), .rd B7 1 (32 * n) (32 * n) ((hkdf key info (32 * n)).map b8), .blk g1 26 (key.map b8), .rd A 1 ni c (info.map b8)] 5 5 #[false, false, false, false, false] hF (by kernel_rfl) (by kernel_rfl) ?_
        refine D_pure (i := 0) [0, 1, 2, 3, 4, 5] rfl (by kernel_rfl) rfl (pr_sla (l := 0) (u := 32) (m := 0) sd sd sd rfl Try.underlying26 (z := 1) (by kernel_rfl) rfl rfl rfl rfl) (.inr rfl) rfl rfl ?_
        refine D_pure (i := 2) [0, 1, 2, 3, 4, 5] rfl (by kernel_rfl) rfl (pr_move rfl rfl) (.inr rfl) rfl rfl ?_
        refine D_take (i := 1) [0, 1, 2, 3, 4, 5] rfl (by kernel_rfl) rfl (ld_str (xs := (hkpc key info (k + 1))) (src_full (z := 1) 1 rfl sd sd sd) Try.underlying24 Try.underlying5 Try.underlying9 rfl rfl) rfl rfl rfl ?_
        refine D_take (i := 3) [0, 1, 2, 3, 4, 5] rfl (by kernel_rfl) rfl (ld_str (xs := (List.take ((32 * k + 32) - (32 * k)) (List.drop (32 * k) (hkdf key info (32 * n))))) (src_rd 0 rfl) Try.underlying24 Try.underlying5 Try.underlying9 rfl rfl) rfl rfl rfl ?_
        refine D_pure (i := 4) [0, 1, 2, 3, 4, 5] rfl (by kernel_rfl) rfl (pr_strne rfl rfl rfl) (.inr rfl) rfl rfl ?_
        refine D_done (by kernel_rfl) ?_
        refine T_re [(1, (.slice A ni c)), (2, (.int .i64 ((n : Nat) : Int))), (3, (.pointer (some ⟨g1, 0, none⟩))), (7, (.slice B7 (32 * n) (32 * n))), (9, (.slice B143 ((32 * k + 32) - (32 * k)) ((32 * n) - (32 * k)))), (10, (.int .i64 ((k : Nat) : Int))), (69, (.bool (!decide ((hkpc key info (k + 1)) = (List.take ((32 * k + 32) - (32 * k)) (List.drop (32 * k) (hkdf key info (32 * n))))))))] (sc rfl (sc rfl (sc rfl (sc rfl (sc rfl (sc rfl (sc rfl sn))))))) ?_
        refine T_he [0, 1, 2, 3, 4, 5] [.rd B143 1 ((32 * k + 32) - (32 * k)) ((32 * n) - (32 * k)) ((List.take ((32 * k + 32) - (32 * k)) (List.drop (32 * k) (hkdf key info (32 * n)))).map b8), .blk g20 26 ((hkpc key info (k + 1)).map b8), .rd lA 1 ln lc ((hkpc key info k).map b8), .rd B7 1 (32 * n) (32 * n) ((hkdf key info (32 * n)).map b8), .blk g1 26 (key.map b8), .rd A 1 ni c (info.map b8)] ⟨by decide, rfl⟩ ?_
        refine T_cond_no (t := !decide ((hkpc key info (k + 1)) = (List.take ((32 * k + 32) - (32 * k)) (List.drop (32 * k) (hkdf key info (32 * n)))))) rfl (by rw [show 32 * k + 32 - 32 * k = 32 by omega, hk_all key info n k (by omega) (by omega)]; simp) ?_
        refine T_skip ?_
        refine T_reg hF rfl ?_
        refine L_op rfl (op_pr (pr_move rfl rfl) rfl rfl ?_)
        refine L_op rfl (op_pr (pr_add (na_i64 (a := k) (b := 1) sd) rfl rfl rfl) rfl rfl ?_)
        refine L_op rfl (op_pr (pr_assign rfl rfl) rfl rfl ?_)
        refine L_nil ?_
        refine T_re [(1, (.slice A ni c)), (2, (.int .i64 ((n : Nat) : Int))), (3, (.pointer (some ⟨g1, 0, none⟩))), (7, (.slice B7 (32 * n) (32 * n))), (9, (.slice B143 ((32 * k + 32) - (32 * k)) ((32 * n) - (32 * k)))), (10, (.int .i64 ((k + 1 : Nat) : Int)))] (sc rfl (sc rfl (sc rfl (sc rfl (sc rfl (sc rfl sn)))))) ?_
        refine T_he [0, 1, 2, 3, 4, 5] [.rd B143 1 ((32 * k + 32) - (32 * k)) ((32 * n) - (32 * k)) ((List.take ((32 * k + 32) - (32 * k)) (List.drop (32 * k) (hkdf key info (32 * n)))).map b8), .blk g20 26 ((hkpc key info (k + 1)).map b8), .rd lA 1 ln lc ((hkpc key info k).map b8), .rd B7 1 (32 * n) (32 * n) ((hkdf key info (32 * n)).map b8), .blk g1 26 (key.map b8), .rd A 1 ni c (info.map b8)] ⟨by decide, rfl⟩ ?_
        refine T_as 0 (.rd B143 1 ((32 * k + 32) - (32 * k)) ((32 * n) - (32 * k)) ((List.take ((32 * k + 32) - (32 * k)) (List.drop (32 * k) (hkdf key info (32 * n)))).map b8)) (.rd B143 1 ((32 * k + 32) - (32 * k)) ((32 * n) - (32 * k)) ((hkpc key info (k + 1)).map b8)) rfl (by rw [show 32 * k + 32 - 32 * k = 32 by omega, hk_all key info n k (by omega) (by omega)]) ?_
        exact T_again (k + 1, B143, (32 * k + 32) - (32 * k), (32 * n) - (32 * k)) (by simp; omega) (by first | trivial | ((try dsimp only); first | omega | (refine ⟨?_, ?_⟩ <;> omega) | (refine ⟨?_, ?_, ?_⟩ <;> omega) | (simp; done) | (simp; omega))) (sc rfl (sc rfl (sc rfl (sc rfl (sc rfl (sc rfl sn)))))) [0, 3, 4, 5] ⟨by decide, rfl⟩
    · skip
      have hc_10 := of_decide_eq_false hc_10
      refine T_exit rfl ?_
      refine T_seq ?_
      refine T_reg hF rfl ?_
      refine L_op rfl (op_pr (pr_assign rfl rfl) rfl rfl ?_)
      refine L_nil ?_
      refine T_re [(6, (.bool true))] (sc rfl sn) ?_
      refine T_he [0, 1, 2, 3] [.rd lA 1 ln lc ((hkpc key info k).map b8), .rd B7 1 (32 * n) (32 * n) ((hkdf key info (32 * n)).map b8), .blk g1 26 (key.map b8), .rd A 1 ni c (info.map b8)] ⟨by decide, rfl⟩ ?_
      refine T_ret ?_
      exact T_fin () (by first | trivial | omega | (simp; done)) (res1 rfl rfl) [] ⟨by decide, rfl⟩ rfl
end Go.Proofs.Ytmhkmamenfmolaa
