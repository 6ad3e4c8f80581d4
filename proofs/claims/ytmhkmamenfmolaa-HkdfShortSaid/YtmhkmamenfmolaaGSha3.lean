/- What sha.Sum answers, by facts. Condition: all bytes together below 10^9. -/
import Derived.Test.YtmhkmamenfmolaaGSha2
import Derived.Test.YtmhkmamenfmolaaGCat
import Derived.Test.YtmhkmamenfmolaaProg
import Derived.Test.YtmhkmamenfmolaaFwU
namespace Go.Proofs.Ytmhkmamenfmolaa
set_option linter.unusedVariables false
set_option linter.unusedSimpArgs false
set_option linter.unnecessarySimpa false
open Go.RowKit Bv Fw

theorem catp_nil : catp [] = [] := rfl
theorem catp_cons (p : Pt) (L : List Pt) : catp (p :: L) = p.xs ++ catp L := by simp [catp]

set_option maxHeartbeats 4000000 in
theorem sum_f (Q : List Pt) (A : Option Addr) (n : Nat) (c : Nat) (w : World) (hO : HOK [.rd A 1 n c (Q.map Pt.sl), .all Q] w) (hn : Q.length = n) (hs : (catp Q).length ≤ 1000000000) (hn2 : n ≤ 1000000000) : Calls Try.prog 17 [(.slice A n c)].toArray w (Ret (T := Unit) [] w (fun _ => True) (fun _ => (.agg ((shasum (catp Q)).map b8).toArray)) (fun _ => [])) := by
  have hkl : shaK.length = 64 := shaK_len
  have hpl : plen (catp Q).length ≤ 72 := plen_le _
  have hml := shamsg_len (catp Q)
  have hpbl := padb_len (catp Q).length
  have hsl := shasum_len (catp Q)
  have hHl := shaH_len
  have hstl := fun k => hst_len (shamsg (catp Q)) k
  have hsol := fun s k => shaout_len s k
  have hF : Wid Fence.wide := wid_wide
  refine enter_m (c := _) Try.func17 rfl [] [(.slice A n c)] [.rd A 1 n c (Q.map Pt.sl), .all Q] (by rw [Try.ntmps17]; rfl) (own_rds hO rfl) ?_
  rw [Try.ntmps17]
  refine T_re [(0, (.slice A n c))] (sc rfl sn) ?_
  refine T_he [0, 1] [.rd A 1 n c (Q.map Pt.sl), .all Q] ⟨by decide, rfl⟩ ?_
  refine T_seq ?_
  refine T_reg hF rfl ?_
  refine L_op rfl (op_alloc (z := .agg ((List.replicate 32 0#8).map b8).toArray) (zs := ((List.replicate 32 0#8).map b8)) (by kernel_rfl) rfl rfl rfl rfl (fun g1 => ?_))
  refine L_nil ?_
  refine T_re [(0, (.slice A n c)), (2, (.pointer (some ⟨g1, 0, none⟩)))] (sc rfl (sc rfl sn)) ?_
  refine T_he [0, 1, 2] [.blk g1 26 ((List.replicate 32 0#8).map b8), .rd A 1 n c (Q.map Pt.sl), .all Q] ⟨by decide, rfl⟩ ?_
  refine T_seq ?_
  refine T_reg hF rfl ?_
  refine L_op rfl (op_pr (pr_move rfl rfl) rfl rfl ?_)
  refine L_op rfl (op_call0 (vs := [(.slice A n c)]) (cap := []) (fun w hw => concat_f Q A n c w (hok_cons ((src_rd 1 rfl) w hw) (hok_cons (hw _ (List.mem_of_getElem? (i := 2) rfl)) (hok_nil w))) sd sd sd) (enters_of Try.func36 (by kernel_rfl) rfl) rfl rfl rfl rfl rfl (fun t2 q3 => ?_))
  obtain ⟨B4, d5⟩ := t2
  refine L_op rfl (op_pr (pr_assign rfl rfl) rfl rfl ?_)
  refine L_nil ?_
  refine T_re [(2, (.pointer (some ⟨g1, 0, none⟩))), (3, (.slice B4 ((catp Q).length) d5))] (sc rfl (sc rfl sn)) ?_
  refine T_he [0, 1, 2, 3] [.row (.slice B4 ((catp Q).length) d5) 5 1 ((catp Q).length) ((catp Q).map b8), .blk g1 26 ((List.replicate 32 0#8).map b8), .rd A 1 n c (Q.map Pt.sl), .all Q] ⟨by decide, rfl⟩ ?_
  refine T_seq ?_
  refine T_reg hF rfl ?_
  refine L_op rfl (op_pr (pr_move rfl rfl) rfl rfl ?_)
  refine L_op rfl (op_pr (pr_move rfl rfl) rfl rfl ?_)
  refine L_op rfl (op_pr (pr_len_sl Try.underlying24 rfl rfl) rfl rfl ?_)
  refine L_op rfl (op_call0 (vs := [(.int .i64 (((catp Q).length : Nat) : Int))]) (cap := []) (fun w hw => pad_f ((catp Q).length) w (hok_nil w) sd) (enters_of Try.func20 (by kernel_rfl) rfl) rfl rfl rfl rfl rfl (fun t6 q7 => ?_))
  obtain ⟨B8, d9⟩ := t6
  refine L_op rfl (op_append (z := (b8 (0#8))) (size := 1) (bytes := 1) 1 rfl Try.underlying24 (by kernel_rfl) (by kernel_rfl) (by decide) (src_row 0 rfl) (all8_one _) sd sd rfl rfl rfl rfl rfl (fun A10 C11 => ?_))
  refine T_as 0 (.row (.slice A10 ((catp Q).length + plen ((catp Q).length)) C11) 5 1 ((catp Q).length + plen ((catp Q).length)) (((catp Q).map b8) ++ ((padb ((catp Q).length)).map b8))) (.row (.slice A10 ((catp Q).length + (plen ((catp Q).length))) C11) 5 1 ((catp Q).length + (plen ((catp Q).length))) (((catp Q) ++ padb ((catp Q).length)).map b8)) rfl (by first | rfl | (congr 1; simp; done) | (simp only [List.map_append]; rfl) | (rw [List.map_append]; rfl)) ?_
  refine T_slot 16 (.slice A10 ((catp Q).length + plen ((catp Q).length)) C11) (.slice A10 ((catp Q).length + (plen ((catp Q).length))) C11) rfl rfl ?_
  refine L_op rfl (op_pr (pr_assign rfl rfl) rfl rfl ?_)
  refine L_nil ?_
  refine T_re [(2, (.pointer (some ⟨g1, 0, none⟩))), (3, (.slice A10 ((catp Q).length + (plen ((catp Q).length))) C11))] (sc rfl (sc rfl sn)) ?_
  refine T_he [0, 1, 2, 3, 4] [.row (.slice A10 ((catp Q).length + (plen ((catp Q).length))) C11) 5 1 ((catp Q).length + (plen ((catp Q).length))) (((catp Q) ++ padb ((catp Q).length)).map b8), .row (.slice B8 (plen ((catp Q).length)) d9) 5 1 (plen ((catp Q).length)) ((padb ((catp Q).length)).map b8), .blk g1 26 ((List.replicate 32 0#8).map b8), .rd A 1 n c (Q.map Pt.sl), .all Q] ⟨by decide, rfl⟩ ?_
  refine T_seq ?_
  refine T_reg hF rfl ?_
  refine L_op rfl (op_call0 (vs := []) (cap := []) (fun w hw => words_f  w (hok_nil w) ) (enters_of Try.func21 (by kernel_rfl) rfl) rfl rfl rfl rfl rfl (fun t12 q13 => ?_))
  refine L_op rfl (op_alloc (z := .agg ((List.replicate 64 0#32).map b32).toArray) (zs := ((List.replicate 64 0#32).map b32)) (by kernel_rfl) rfl rfl rfl rfl (fun g14 => ?_))
  refine L_op rfl (op_store (vs := (shaK.map b32)) (cs' := (shaK.map b32)) 0 rfl rfl (by rw [show ((shaK.map b32)).length = 64 from sd]; kernel_rfl) (all32_one _) (by have h1 : (((List.replicate 64 0#32).map b32)).length = 64 := (by kernel_rfl); have h2 : ((shaK.map b32)).length = 64 := sd; omega) (splice_all (Eq.trans (b := 64) (by kernel_rfl) (Eq.symm sd))) rfl rfl rfl rfl ?_)
  refine L_nil ?_
  refine T_re [(2, (.pointer (some ⟨g1, 0, none⟩))), (3, (.slice A10 ((catp Q).length + (plen ((catp Q).length))) C11)), (4, (.pointer (some ⟨g14, 0, none⟩)))] (sc rfl (sc rfl (sc rfl sn))) ?_
  refine T_he [0, 1, 2, 3, 4, 5] [.blk g14 33 (shaK.map b32), .row (.slice A10 ((catp Q).length + (plen ((catp Q).length))) C11) 5 1 ((catp Q).length + (plen ((catp Q).length))) (((catp Q) ++ padb ((catp Q).length)).map b8), .row (.slice B8 (plen ((catp Q).length)) d9) 5 1 (plen ((catp Q).length)) ((padb ((catp Q).length)).map b8), .blk g1 26 ((List.replicate 32 0#8).map b8), .rd A 1 n c (Q.map Pt.sl), .all Q] ⟨by decide, rfl⟩ ?_
  refine T_seq ?_
  refine T_reg hF rfl ?_
  refine L_op rfl (op_pr (pr_build (qs := [(0, (b32 (1779033703#32))), (1, (b32 (3144134277#32))), (2, (b32 (1013904242#32))), (3, (b32 (2773480762#32))), (4, (b32 (1359893119#32))), (5, (b32 (2600822924#32))), (6, (b32 (528734635#32))), (7, (b32 (1541459225#32)))]) (v := .agg [(b32 (1779033703#32)), (b32 (3144134277#32)), (b32 (1013904242#32)), (b32 (2773480762#32)), (b32 (1359893119#32)), (b32 (2600822924#32)), (b32 (528734635#32)), (b32 (1541459225#32))].toArray) (fun _ => by kernel_rfl) rfl rfl) rfl rfl ?_)
  refine L_op rfl (op_alloc (z := .agg [(b32 (0#32)), (b32 (0#32)), (b32 (0#32)), (b32 (0#32)), (b32 (0#32)), (b32 (0#32)), (b32 (0#32)), (b32 (0#32))].toArray) (zs := [(b32 (0#32)), (b32 (0#32)), (b32 (0#32)), (b32 (0#32)), (b32 (0#32)), (b32 (0#32)), (b32 (0#32)), (b32 (0#32))]) (by kernel_rfl) rfl rfl rfl rfl (fun g15 => ?_))
  refine L_op rfl (op_store (vs := [(b32 (1779033703#32)), (b32 (3144134277#32)), (b32 (1013904242#32)), (b32 (2773480762#32)), (b32 (1359893119#32)), (b32 (2600822924#32)), (b32 (528734635#32)), (b32 (1541459225#32))]) (cs' := [(b32 (1779033703#32)), (b32 (3144134277#32)), (b32 (1013904242#32)), (b32 (2773480762#32)), (b32 (1359893119#32)), (b32 (2600822924#32)), (b32 (528734635#32)), (b32 (1541459225#32))]) 0 rfl rfl (by kernel_rfl) (by simp [Value.oneCell']) (by have h1 : ([(b32 (0#32)), (b32 (0#32)), (b32 (0#32)), (b32 (0#32)), (b32 (0#32)), (b32 (0#32)), (b32 (0#32)), (b32 (0#32))]).length = 8 := (by kernel_rfl); have h2 : ([(b32 (1779033703#32)), (b32 (3144134277#32)), (b32 (1013904242#32)), (b32 (2773480762#32)), (b32 (1359893119#32)), (b32 (2600822924#32)), (b32 (528734635#32)), (b32 (1541459225#32))]).length = 8 := (by kernel_rfl); omega) (splice_all (Eq.trans (b := 8) (by kernel_rfl) (Eq.symm (by kernel_rfl)))) rfl rfl rfl rfl ?_)
  refine L_nil ?_
  refine T_re [(2, (.pointer (some ⟨g1, 0, none⟩))), (3, (.slice A10 ((catp Q).length + (plen ((catp Q).length))) C11)), (4, (.pointer (some ⟨g14, 0, none⟩))), (5, (.pointer (some ⟨g15, 0, none⟩)))] (sc rfl (sc rfl (sc rfl (sc rfl sn)))) ?_
  refine T_he [0, 1, 2, 3, 4, 5, 6] [.blk g15 55 [(b32 (1779033703#32)), (b32 (3144134277#32)), (b32 (1013904242#32)), (b32 (2773480762#32)), (b32 (1359893119#32)), (b32 (2600822924#32)), (b32 (528734635#32)), (b32 (1541459225#32))], .blk g14 33 (shaK.map b32), .row (.slice A10 ((catp Q).length + (plen ((catp Q).length))) C11) 5 1 ((catp Q).length + (plen ((catp Q).length))) (((catp Q) ++ padb ((catp Q).length)).map b8), .row (.slice B8 (plen ((catp Q).length)) d9) 5 1 (plen ((catp Q).length)) ((padb ((catp Q).length)).map b8), .blk g1 26 ((List.replicate 32 0#8).map b8), .rd A 1 n c (Q.map Pt.sl), .all Q] ⟨by decide, rfl⟩ ?_
  refine T_seq ?_
  refine T_seq ?_
  refine T_reg hF rfl ?_
  refine L_op rfl (op_pr (pr_move rfl rfl) rfl rfl ?_)
  refine L_op rfl (op_call0 (vs := [(.slice A10 ((catp Q).length + (plen ((catp Q).length))) C11), (.int .i64 ((64 : Nat) : Int))]) (cap := []) (fun w hw => chunk_f A10 ((catp Q).length + (plen ((catp Q).length))) C11 64 w (hok_nil w) sd) (enters_of Try.func37 (by kernel_rfl) rfl) rfl rfl rfl rfl rfl (fun t16 q17 => ?_))
  obtain ⟨g1_18, g2_19⟩ := t16
  refine L_nil ?_
  refine T_re [(2, (.pointer (some ⟨g1, 0, none⟩))), (4, (.pointer (some ⟨g14, 0, none⟩))), (5, (.pointer (some ⟨g15, 0, none⟩))), (20, (.func (.func 46) #[] [(.pointer (some ⟨g1_18, 0, none⟩)), (.pointer (some ⟨g2_19, 0, none⟩))].toArray))] (sc rfl (sc rfl (sc rfl (sc rfl sn)))) ?_
  refine T_he [0, 1, 2, 3, 4, 5, 6, 7, 8] [.old (some ⟨g1_18, 0, none⟩) 1 1 1 [(.slice A10 ((catp Q).length + (plen ((catp Q).length))) C11)], .old (some ⟨g2_19, 0, none⟩) 1 1 1 [(.int .i64 ((64 : Nat) : Int))], .blk g15 55 [(b32 (1779033703#32)), (b32 (3144134277#32)), (b32 (1013904242#32)), (b32 (2773480762#32)), (b32 (1359893119#32)), (b32 (2600822924#32)), (b32 (528734635#32)), (b32 (1541459225#32))], .blk g14 33 (shaK.map b32), .row (.slice A10 ((catp Q).length + (plen ((catp Q).length))) C11) 5 1 ((catp Q).length + (plen ((catp Q).length))) (((catp Q) ++ padb ((catp Q).length)).map b8), .row (.slice B8 (plen ((catp Q).length)) d9) 5 1 (plen ((catp Q).length)) ((padb ((catp Q).length)).map b8), .blk g1 26 ((List.replicate 32 0#8).map b8), .rd A 1 n c (Q.map Pt.sl), .all Q] ⟨by decide, rfl⟩ ?_
  refine T_block ?_
  refine T_tord 0 rfl ?_
  refine T_tord 1 rfl ?_
  refine T_old 4 rfl ?_
  refine T_tord 0 rfl ?_
  refine T_re [(2, (.pointer (some ⟨g1, 0, none⟩))), (4, (.pointer (some ⟨g14, 0, none⟩))), (5, (.pointer (some ⟨g15, 0, none⟩))), (20, (.func (.func 46) #[] [(.pointer (some ⟨g1_18, 0, none⟩)), (.pointer (some ⟨g2_19, 0, none⟩))].toArray))] (sc rfl (sc rfl (sc rfl (sc rfl sn)))) ?_
  refine T_he [0, 1, 2, 3, 4, 5, 6, 7, 8] [.rd A10 1 ((catp Q).length + (plen ((catp Q).length))) C11 (((catp Q) ++ padb ((catp Q).length)).map b8), .rd (some ⟨g2_19, 0, none⟩) 1 1 1 [(.int .i64 ((64 : Nat) : Int))], .rd (some ⟨g1_18, 0, none⟩) 1 1 1 [(.slice A10 ((catp Q).length + (plen ((catp Q).length))) C11)], .blk g15 55 [(b32 (1779033703#32)), (b32 (3144134277#32)), (b32 (1013904242#32)), (b32 (2773480762#32)), (b32 (1359893119#32)), (b32 (2600822924#32)), (b32 (528734635#32)), (b32 (1541459225#32))], .blk g14 33 (shaK.map b32), .row (.slice B8 (plen ((catp Q).length)) d9) 5 1 (plen ((catp Q).length)) ((padb ((catp Q).length)).map b8), .blk g1 26 ((List.replicate 32 0#8).map b8), .rd A 1 n c (Q.map Pt.sl), .all Q] ⟨by decide, rfl⟩ ?_
  refine T_as 3 (.blk g15 55 [(b32 (1779033703#32)), (b32 (3144134277#32)), (b32 (1013904242#32)), (b32 (2773480762#32)), (b32 (1359893119#32)), (b32 (2600822924#32)), (b32 (528734635#32)), (b32 (1541459225#32))]) (.blk g15 55 ((hst (shamsg (catp Q)) 0).map b32)) rfl (by rw [hst_zero]; unfold shaH; rfl) ?_
  refine T_range (Θ := Option Addr) (T := Unit) (Tx := Unit) (cap := [(.pointer (some ⟨g1_18, 0, none⟩)), (.pointer (some ⟨g2_19, 0, none⟩))]) (ps := [21]) (chunk_seq ((catp Q) ++ padb ((catp Q).length)) 64 A10 ((catp Q).length + (plen ((catp Q).length))) C11 g1_18 g2_19 sd sd sd sd) rfl (enters_of Try.func46 (by kernel_rfl) rfl) (fun k _ => True) (fun k _ => [.rd A10 1 ((catp Q).length + (plen ((catp Q).length))) C11 (((catp Q) ++ padb ((catp Q).length)).map b8), .rd (some ⟨g2_19, 0, none⟩) 1 1 1 [(.int .i64 ((64 : Nat) : Int))], .rd (some ⟨g1_18, 0, none⟩) 1 1 1 [(.slice A10 ((catp Q).length + (plen ((catp Q).length))) C11)], .blk g15 55 ((hst (shamsg (catp Q)) k).map b32), .blk g14 33 (shaK.map b32), .row (.slice B8 (plen ((catp Q).length)) d9) 5 1 (plen ((catp Q).length)) ((padb ((catp Q).length)).map b8), .blk g1 26 ((List.replicate 32 0#8).map b8), .rd A 1 n c (Q.map Pt.sl), .all Q]) (fun _ => False) (fun _ => []) 0 () (by first | trivial | ((try dsimp only); first | omega | (refine ⟨?_, ?_⟩ <;> omega) | (refine ⟨?_, ?_, ?_⟩ <;> omega) | (simp; done) | (simp; omega))) [1, 2, 3, 0, 4, 5, 6, 7, 8] ⟨by decide, rfl⟩ [3, 2, 1] rfl rfl (fun _ _ => rfl) (fun _ => rfl) (fun _ _ => rfl) (fun _ _ => rfl) rfl (fun _ => trivial) ?_ ?_ ?_
  · intro C2 w2 lo2 rs2 l D m k t th rc hrec hk hp
    obtain ⟨B, rfl⟩ : ∃ x, x = th := ⟨_, rfl⟩
    have hp : True := hp
    have hk : k < (((catp Q).length + (plen ((catp Q).length))) + 64 - 1) / 64 := hk
    obtain ⟨hmin, hb64⟩ := shablk (catp Q) k hk
    have hk8 := hstl k
    have hk9 := (mixb_len (hst (shamsg (catp Q)) k) (List.take 64 (List.drop (64 * k) (shamsg (catp Q))))).trans hk8
    have hF : Wid (Fence.wide.inRound l) := wid_round l
    refine T_re [(4, (.pointer (some ⟨g14, 0, none⟩))), (5, (.pointer (some ⟨g15, 0, none⟩))), (21, (.slice B (min 64 (((catp Q).length + (plen ((catp Q).length))) - 64 * k)) (min 64 (((catp Q).length + (plen ((catp Q).length))) - 64 * k))))] (sc rfl (sc rfl (sc rfl sn))) ?_
    refine T_he [0, 1, 2, 3, 4, 5, 6, 7, 8, 9, 10, 11] [.rd B 1 (min 64 (((catp Q).length + (plen ((catp Q).length))) - 64 * k)) (min 64 (((catp Q).length + (plen ((catp Q).length))) - 64 * k)) ((List.take (min 64 (((catp Q).length + (plen ((catp Q).length))) - 64 * k)) (List.drop (64 * k) ((catp Q) ++ padb ((catp Q).length)))).map b8), .obj l (.loop rc), .obj D (.deferred (some [])), .rd A10 1 ((catp Q).length + (plen ((catp Q).length))) C11 (((catp Q) ++ padb ((catp Q).length)).map b8), .rd (some ⟨g2_19, 0, none⟩) 1 1 1 [(.int .i64 ((64 : Nat) : Int))], .rd (some ⟨g1_18, 0, none⟩) 1 1 1 [(.slice A10 ((catp Q).length + (plen ((catp Q).length))) C11)], .blk g15 55 ((hst (shamsg (catp Q)) k).map b32), .blk g14 33 (shaK.map b32), .row (.slice B8 (plen ((catp Q).length)) d9) 5 1 (plen ((catp Q).length)) ((padb ((catp Q).length)).map b8), .blk g1 26 ((List.replicate 32 0#8).map b8), .rd A 1 n c (Q.map Pt.sl), .all Q] ⟨by decide, rfl⟩ ?_
    refine T_slot 21 (.slice B (min 64 (((catp Q).length + (plen ((catp Q).length))) - 64 * k)) (min 64 (((catp Q).length + (plen ((catp Q).length))) - 64 * k))) (.slice B 64 64) rfl (by rw [hmin]) ?_
    refine T_as 0 (.rd B 1 (min 64 (((catp Q).length + (plen ((catp Q).length))) - 64 * k)) (min 64 (((catp Q).length + (plen ((catp Q).length))) - 64 * k)) ((List.take (min 64 (((catp Q).length + (plen ((catp Q).length))) - 64 * k)) (List.drop (64 * k) ((catp Q) ++ padb ((catp Q).length)))).map b8)) (.rd B 1 64 64 ((List.take 64 (List.drop (64 * k) (shamsg (catp Q)))).map b8)) rfl (by rw [hmin, shamsg_def]) ?_
    refine T_reg hF rfl ?_
    refine L_op rfl (op_pr (pr_assign rfl rfl) rfl rfl ?_)
    refine L_nil ?_
    refine T_re [(4, (.pointer (some ⟨g14, 0, none⟩))), (5, (.pointer (some ⟨g15, 0, none⟩))), (6, (.slice B 64 64))] (sc rfl (sc rfl (sc rfl sn))) ?_
    refine T_he [0, 1, 2, 3, 4, 5, 6, 7, 8, 9, 10, 11] [.rd B 1 64 64 ((List.take 64 (List.drop (64 * k) (shamsg (catp Q)))).map b8), .obj l (.loop rc), .obj D (.deferred (some [])), .rd A10 1 ((catp Q).length + (plen ((catp Q).length))) C11 (((catp Q) ++ padb ((catp Q).length)).map b8), .rd (some ⟨g2_19, 0, none⟩) 1 1 1 [(.int .i64 ((64 : Nat) : Int))], .rd (some ⟨g1_18, 0, none⟩) 1 1 1 [(.slice A10 ((catp Q).length + (plen ((catp Q).length))) C11)], .blk g15 55 ((hst (shamsg (catp Q)) k).map b32), .blk g14 33 (shaK.map b32), .row (.slice B8 (plen ((catp Q).length)) d9) 5 1 (plen ((catp Q).length)) ((padb ((catp Q).length)).map b8), .blk g1 26 ((List.replicate 32 0#8).map b8), .rd A 1 n c (Q.map Pt.sl), .all Q] ⟨by decide, rfl⟩ ?_
    refine T_begun 1 rfl hrec ?_
    refine T_block ?_
    refine T_reg hF rfl ?_
    refine L_op rfl (op_ld (ld_agg (ds := ((hst (shamsg (catp Q)) k).map b32)) 6 rfl agg_all Try.underlying55 rfl (by rw [show (((hst (shamsg (catp Q)) k).map b32)).length = 8 from sd]; kernel_rfl) rfl rfl) rfl rfl ?_)
    refine L_op rfl (op_pr (pr_move rfl rfl) rfl rfl ?_)
    refine L_op rfl (op_call0 (vs := [(.agg ((hst (shamsg (catp Q)) k).map b32).toArray), (.pointer (some ⟨g14, 0, none⟩)), (.slice B 64 64)]) (cap := []) (fun w hw => mixed_f (hst (shamsg (catp Q)) k) g14 (List.take 64 (List.drop (64 * k) (shamsg (catp Q)))) B 64 w (hok_cons ((src_full (z := 1) 7 rfl sd sd sd) w hw) (hok_cons ((src_rd 1 rfl) w hw) (hok_nil w))) sd sd) (enters_of Try.func38 (by kernel_rfl) rfl) rfl rfl rfl rfl rfl (fun t20 q21 => ?_))
    refine L_op rfl (op_store (vs := ((mixb (hst (shamsg (catp Q)) k) (List.take 64 (List.drop (64 * k) (shamsg (catp Q))))).map b32)) (cs' := ((mixb (hst (shamsg (catp Q)) k) (List.take 64 (List.drop (64 * k) (shamsg (catp Q))))).map b32)) 6 rfl rfl (by rw [show (((mixb (hst (shamsg (catp Q)) k) (List.take 64 (List.drop (64 * k) (shamsg (catp Q))))).map b32)).length = 8 from sd]; kernel_rfl) (all32_one _) (by have h1 : (((hst (shamsg (catp Q)) k).map b32)).length = 8 := sd; have h2 : (((mixb (hst (shamsg (catp Q)) k) (List.take 64 (List.drop (64 * k) (shamsg (catp Q))))).map b32)).length = 8 := sd; omega) (splice_all (Eq.trans (b := 8) sd (Eq.symm sd))) rfl rfl rfl rfl ?_)
    refine L_nil ?_
    refine T_re [] sn ?_
    refine T_he [0, 1, 2, 3, 4, 5, 6, 7, 8, 9, 10, 11] [.blk g15 55 ((mixb (hst (shamsg (catp Q)) k) (List.take 64 (List.drop (64 * k) (shamsg (catp Q))))).map b32), .obj l (.loop { rc with state := .busy }), .rd B 1 64 64 ((List.take 64 (List.drop (64 * k) (shamsg (catp Q)))).map b8), .obj D (.deferred (some [])), .rd A10 1 ((catp Q).length + (plen ((catp Q).length))) C11 (((catp Q) ++ padb ((catp Q).length)).map b8), .rd (some ⟨g2_19, 0, none⟩) 1 1 1 [(.int .i64 ((64 : Nat) : Int))], .rd (some ⟨g1_18, 0, none⟩) 1 1 1 [(.slice A10 ((catp Q).length + (plen ((catp Q).length))) C11)], .blk g14 33 (shaK.map b32), .row (.slice B8 (plen ((catp Q).length)) d9) 5 1 (plen ((catp Q).length)) ((padb ((catp Q).length)).map b8), .blk g1 26 ((List.replicate 32 0#8).map b8), .rd A 1 n c (Q.map Pt.sl), .all Q] ⟨by decide, rfl⟩ ?_
    refine T_as 0 (.blk g15 55 ((mixb (hst (shamsg (catp Q)) k) (List.take 64 (List.drop (64 * k) (shamsg (catp Q))))).map b32)) (.blk g15 55 ((hst (shamsg (catp Q)) (k + 1)).map b32)) rfl (by rw [hst_succ]) ?_
    exact T_on () (by first | trivial | ((try dsimp only); first | omega | (refine ⟨?_, ?_⟩ <;> omega) | (refine ⟨?_, ?_, ?_⟩ <;> omega) | (simp; done) | (simp; omega))) [1, 3, 4, 5, 6, 0, 7, 8, 9, 10, 11] ⟨by decide, rfl⟩
  · intro D t hp
    have hp : True := hp
    have hk8 := hstl (((catp Q).length + plen (catp Q).length + 64 - 1) / 64)
    refine T_re [(2, (.pointer (some ⟨g1, 0, none⟩))), (5, (.pointer (some ⟨g15, 0, none⟩)))] (sc rfl (sc rfl sn)) ?_
    refine T_he [0, 1, 2, 3, 4, 5, 6, 7, 8, 9] [.obj D (.deferred (some [])), .rd A10 1 ((catp Q).length + (plen ((catp Q).length))) C11 (((catp Q) ++ padb ((catp Q).length)).map b8), .rd (some ⟨g2_19, 0, none⟩) 1 1 1 [(.int .i64 ((64 : Nat) : Int))], .rd (some ⟨g1_18, 0, none⟩) 1 1 1 [(.slice A10 ((catp Q).length + (plen ((catp Q).length))) C11)], .blk g15 55 ((hst (shamsg (catp Q)) ((((catp Q).length + (plen ((catp Q).length))) + 64 - 1) / 64)).map b32), .blk g14 33 (shaK.map b32), .row (.slice B8 (plen ((catp Q).length)) d9) 5 1 (plen ((catp Q).length)) ((padb ((catp Q).length)).map b8), .blk g1 26 ((List.replicate 32 0#8).map b8), .rd A 1 n c (Q.map Pt.sl), .all Q] ⟨by decide, rfl⟩ ?_
    refine T_seq ?_
    refine T_reg hF rfl ?_
    refine L_op rfl (op_make (z := (b8 (0#8))) (n := 0) (c := 32) Try.underlying24 (bytes := 1) (by kernel_rfl) rfl sd sd sd rfl rfl rfl rfl rfl (fun g22 => ?_))
    refine T_as 0 _ (.blk g22 5 ((List.replicate 32 0#8).map b8)) rfl (by rw [List.map_replicate]) ?_
    refine L_op rfl (op_pr (pr_assign rfl rfl) rfl rfl ?_)
    refine L_nil ?_
    refine T_re [(2, (.pointer (some ⟨g1, 0, none⟩))), (5, (.pointer (some ⟨g15, 0, none⟩))), (7, (.slice (some ⟨g22, 0, none⟩) 0 32))] (sc rfl (sc rfl (sc rfl sn))) ?_
    refine T_he [0, 1, 2, 3, 4, 5, 6, 7, 8, 9, 10] [.blk g22 5 ((List.replicate 32 0#8).map b8), .obj D (.deferred (some [])), .rd A10 1 ((catp Q).length + (plen ((catp Q).length))) C11 (((catp Q) ++ padb ((catp Q).length)).map b8), .rd (some ⟨g2_19, 0, none⟩) 1 1 1 [(.int .i64 ((64 : Nat) : Int))], .rd (some ⟨g1_18, 0, none⟩) 1 1 1 [(.slice A10 ((catp Q).length + (plen ((catp Q).length))) C11)], .blk g15 55 ((hst (shamsg (catp Q)) ((((catp Q).length + (plen ((catp Q).length))) + 64 - 1) / 64)).map b32), .blk g14 33 (shaK.map b32), .row (.slice B8 (plen ((catp Q).length)) d9) 5 1 (plen ((catp Q).length)) ((padb ((catp Q).length)).map b8), .blk g1 26 ((List.replicate 32 0#8).map b8), .rd A 1 n c (Q.map Pt.sl), .all Q] ⟨by decide, rfl⟩ ?_
    refine T_seq ?_
    refine T_seq ?_
    refine T_reg hF rfl ?_
    refine L_op rfl (op_ld (ld_agg (ds := ((hst (shamsg (catp Q)) ((((catp Q).length + (plen ((catp Q).length))) + 64 - 1) / 64)).map b32)) 5 rfl agg_all Try.underlying55 rfl (by rw [show (((hst (shamsg (catp Q)) ((((catp Q).length + (plen ((catp Q).length))) + 64 - 1) / 64)).map b32)).length = 8 from sd]; kernel_rfl) rfl rfl) rfl rfl ?_)
    refine L_op rfl (op_pr (pr_move rfl rfl) rfl rfl ?_)
    refine L_nil ?_
    refine T_re [(2, (.pointer (some ⟨g1, 0, none⟩))), (7, (.slice (some ⟨g22, 0, none⟩) 0 32)), (26, (.agg ((hst (shamsg (catp Q)) ((((catp Q).length + (plen ((catp Q).length))) + 64 - 1) / 64)).map b32).toArray)), (27, (.int .i64 ((0 : Nat) : Int)))] (sc rfl (sc rfl (sc rfl (sc rfl sn)))) ?_
    refine T_he [0, 1, 2, 3, 4, 5, 6, 7, 8, 9, 10] [.blk g22 5 ((List.replicate 32 0#8).map b8), .obj D (.deferred (some [])), .rd A10 1 ((catp Q).length + (plen ((catp Q).length))) C11 (((catp Q) ++ padb ((catp Q).length)).map b8), .rd (some ⟨g2_19, 0, none⟩) 1 1 1 [(.int .i64 ((64 : Nat) : Int))], .rd (some ⟨g1_18, 0, none⟩) 1 1 1 [(.slice A10 ((catp Q).length + (plen ((catp Q).length))) C11)], .blk g15 55 ((hst (shamsg (catp Q)) ((((catp Q).length + (plen ((catp Q).length))) + 64 - 1) / 64)).map b32), .blk g14 33 (shaK.map b32), .row (.slice B8 (plen ((catp Q).length)) d9) 5 1 (plen ((catp Q).length)) ((padb ((catp Q).length)).map b8), .blk g1 26 ((List.replicate 32 0#8).map b8), .rd A 1 n c (Q.map Pt.sl), .all Q] ⟨by decide, rfl⟩ ?_
    refine T_block ?_
    refine T_slot 7 (.slice (some ⟨g22, 0, none⟩) 0 32) (.slice (some ⟨g22, 0, none⟩) (4 * 0) 32) rfl (by first | rfl | (congr 2; omega) | (simp; omega)) ?_
    refine T_rowb 0 (zs := ((shaout (hst (shamsg (catp Q)) (((catp Q).length + plen (catp Q).length + 64 - 1) / 64)) 0).map b8)) 1 (4 * 0) 32 rfl sd sd sd (by rw [shaout_zero]; rfl) ?_
    refine T_loop (T := Nat × Option Addr × Nat) (fun ⟨k, A1, c1⟩ => k ≤ 8) (fun ⟨k, A1, c1⟩ => [(2, (.pointer (some ⟨g1, 0, none⟩))), (7, (.slice A1 (4 * k) c1)), (26, (.agg ((hst (shamsg (catp Q)) ((((catp Q).length + (plen ((catp Q).length))) + 64 - 1) / 64)).map b32).toArray)), (27, (.int .i64 ((k : Nat) : Int)))]) (fun ⟨k, A1, c1⟩ => [.row (.slice A1 (4 * k) c1) 5 1 (4 * k) ((shaout (hst (shamsg (catp Q)) (((catp Q).length + plen (catp Q).length + 64 - 1) / 64)) k).map b8), .obj D (.deferred (some [])), .rd A10 1 ((catp Q).length + (plen ((catp Q).length))) C11 (((catp Q) ++ padb ((catp Q).length)).map b8), .rd (some ⟨g2_19, 0, none⟩) 1 1 1 [(.int .i64 ((64 : Nat) : Int))], .rd (some ⟨g1_18, 0, none⟩) 1 1 1 [(.slice A10 ((catp Q).length + (plen ((catp Q).length))) C11)], .blk g15 55 ((hst (shamsg (catp Q)) ((((catp Q).length + (plen ((catp Q).length))) + 64 - 1) / 64)).map b32), .blk g14 33 (shaK.map b32), .row (.slice B8 (plen ((catp Q).length)) d9) 5 1 (plen ((catp Q).length)) ((padb ((catp Q).length)).map b8), .blk g1 26 ((List.replicate 32 0#8).map b8), .rd A 1 n c (Q.map Pt.sl), .all Q]) (fun ⟨k, A1, c1⟩ => 8 - k) (0, some ⟨g22, 0, none⟩, 32) (by first | trivial | ((try dsimp only); first | omega | (refine ⟨?_, ?_⟩ <;> omega) | (refine ⟨?_, ?_, ?_⟩ <;> omega) | (simp; done) | (simp; omega))) (sc rfl (sc rfl (sc rfl (sc rfl sn)))) [0, 1, 2, 3, 4, 5, 6, 7, 8, 9, 10] ⟨by decide, rfl⟩ ?_
    rintro ⟨k, A1, c1⟩ hp
    have hp : k ≤ 8 := hp
    have hkl2 := hsol (hst (shamsg (catp Q)) (((catp Q).length + plen (catp Q).length + 64 - 1) / 64)) k
    refine T_re [(2, (.pointer (some ⟨g1, 0, none⟩))), (7, (.slice A1 (4 * k) c1)), (26, (.agg ((hst (shamsg (catp Q)) ((((catp Q).length + (plen ((catp Q).length))) + 64 - 1) / 64)).map b32).toArray)), (27, (.int .i64 ((k : Nat) : Int)))] (sc rfl (sc rfl (sc rfl (sc rfl sn)))) ?_
    refine T_he [0, 1, 2, 3, 4, 5, 6, 7, 8, 9, 10] [.row (.slice A1 (4 * k) c1) 5 1 (4 * k) ((shaout (hst (shamsg (catp Q)) (((catp Q).length + plen (catp Q).length + 64 - 1) / 64)) k).map b8), .obj D (.deferred (some [])), .rd A10 1 ((catp Q).length + (plen ((catp Q).length))) C11 (((catp Q) ++ padb ((catp Q).length)).map b8), .rd (some ⟨g2_19, 0, none⟩) 1 1 1 [(.int .i64 ((64 : Nat) : Int))], .rd (some ⟨g1_18, 0, none⟩) 1 1 1 [(.slice A10 ((catp Q).length + (plen ((catp Q).length))) C11)], .blk g15 55 ((hst (shamsg (catp Q)) ((((catp Q).length + (plen ((catp Q).length))) + 64 - 1) / 64)).map b32), .blk g14 33 (shaK.map b32), .row (.slice B8 (plen ((catp Q).length)) d9) 5 1 (plen ((catp Q).length)) ((padb ((catp Q).length)).map b8), .blk g1 26 ((List.replicate 32 0#8).map b8), .rd A 1 n c (Q.map Pt.sl), .all Q] ⟨by decide, rfl⟩ ?_
    refine T_seq ?_
    refine T_reg hF rfl ?_
    refine L_op rfl (op_pr (pr_cmp (bo := .lss) (nc_lt (a := k) (b := 8)) rfl rfl rfl rfl) rfl rfl ?_)
    refine L_nil ?_
    refine T_re [(2, (.pointer (some ⟨g1, 0, none⟩))), (7, (.slice A1 (4 * k) c1)), (26, (.agg ((hst (shamsg (catp Q)) ((((catp Q).length + (plen ((catp Q).length))) + 64 - 1) / 64)).map b32).toArray)), (27, (.int .i64 ((k : Nat) : Int))), (28, (.bool (decide (k < 8))))] (sc rfl (sc rfl (sc rfl (sc rfl (sc rfl sn))))) ?_
    refine T_he [0, 1, 2, 3, 4, 5, 6, 7, 8, 9, 10] [.row (.slice A1 (4 * k) c1) 5 1 (4 * k) ((shaout (hst (shamsg (catp Q)) (((catp Q).length + plen (catp Q).length + 64 - 1) / 64)) k).map b8), .obj D (.deferred (some [])), .rd A10 1 ((catp Q).length + (plen ((catp Q).length))) C11 (((catp Q) ++ padb ((catp Q).length)).map b8), .rd (some ⟨g2_19, 0, none⟩) 1 1 1 [(.int .i64 ((64 : Nat) : Int))], .rd (some ⟨g1_18, 0, none⟩) 1 1 1 [(.slice A10 ((catp Q).length + (plen ((catp Q).length))) C11)], .blk g15 55 ((hst (shamsg (catp Q)) ((((catp Q).length + (plen ((catp Q).length))) + 64 - 1) / 64)).map b32), .blk g14 33 (shaK.map b32), .row (.slice B8 (plen ((catp Q).length)) d9) 5 1 (plen ((catp Q).length)) ((padb ((catp Q).length)).map b8), .blk g1 26 ((List.replicate 32 0#8).map b8), .rd A 1 n c (Q.map Pt.sl), .all Q] ⟨by decide, rfl⟩ ?_
    refine T_seq ?_
    refine T_cond (decide (k < 8)) rfl (fun hc_23 => ?_) (fun hc_23 => ?_)
    · skip
      have hc_23 := of_decide_eq_true hc_23
      refine T_skip ?_
      refine T_seq ?_
      refine T_block ?_
      refine T_seq ?_
      refine T_reg hF rfl ?_
      refine L_op rfl (op_pr (pr_ix (cs := ((hst (shamsg (catp Q)) ((((catp Q).length + (plen ((catp Q).length))) + 64 - 1) / 64)).map b32)) (j := k) sd (get32 sd) Try.underlying55 Try.underlying32 rfl (by kernel_rfl) rfl rfl rfl) rfl rfl ?_)
      refine L_op rfl (op_pr (pr_assign rfl rfl) rfl rfl ?_)
      refine L_nil ?_
      refine T_re [(2, (.pointer (some ⟨g1, 0, none⟩))), (7, (.slice A1 (4 * k) c1)), (9, (b32 (ath (hst (shamsg (catp Q)) ((((catp Q).length + (plen ((catp Q).length))) + 64 - 1) / 64)) k))), (26, (.agg ((hst (shamsg (catp Q)) ((((catp Q).length + (plen ((catp Q).length))) + 64 - 1) / 64)).map b32).toArray)), (27, (.int .i64 ((k : Nat) : Int)))] (sc rfl (sc rfl (sc rfl (sc rfl (sc rfl sn))))) ?_
      refine T_he [0, 1, 2, 3, 4, 5, 6, 7, 8, 9, 10] [.row (.slice A1 (4 * k) c1) 5 1 (4 * k) ((shaout (hst (shamsg (catp Q)) (((catp Q).length + plen (catp Q).length + 64 - 1) / 64)) k).map b8), .obj D (.deferred (some [])), .rd A10 1 ((catp Q).length + (plen ((catp Q).length))) C11 (((catp Q) ++ padb ((catp Q).length)).map b8), .rd (some ⟨g2_19, 0, none⟩) 1 1 1 [(.int .i64 ((64 : Nat) : Int))], .rd (some ⟨g1_18, 0, none⟩) 1 1 1 [(.slice A10 ((catp Q).length + (plen ((catp Q).length))) C11)], .blk g15 55 ((hst (shamsg (catp Q)) ((((catp Q).length + (plen ((catp Q).length))) + 64 - 1) / 64)).map b32), .blk g14 33 (shaK.map b32), .row (.slice B8 (plen ((catp Q).length)) d9) 5 1 (plen ((catp Q).length)) ((padb ((catp Q).length)).map b8), .blk g1 26 ((List.replicate 32 0#8).map b8), .rd A 1 n c (Q.map Pt.sl), .all Q] ⟨by decide, rfl⟩ ?_
      refine T_reg hF rfl ?_
      refine L_op rfl (op_pr (pr_move rfl rfl) rfl rfl ?_)
      refine L_op rfl (op_pr (pr_move rfl rfl) rfl rfl ?_)
      refine L_op rfl (op_pr (pr_cv (cv32_64 _) Try.underlying32 Try.underlying62 rfl rfl) rfl rfl ?_)
      refine L_op rfl (op_call1 (vs := [(.slice A1 (4 * k) c1), (b64 ((ath (hst (shamsg (catp Q)) ((((catp Q).length + (plen ((catp Q).length))) + 64 - 1) / 64)) k).setWidth 64)), (.int .i64 ((4 : Nat) : Int))]) (cap := []) 0 rfl (fun w hw => putHigh_f (shaout (hst (shamsg (catp Q)) (((catp Q).length + plen (catp Q).length + 64 - 1) / 64)) k) ((ath (hst (shamsg (catp Q)) ((((catp Q).length + (plen ((catp Q).length))) + 64 - 1) / 64)) k).setWidth 64) 4 A1 (4 * k) c1 w (hw _ (List.mem_of_getElem? (i := 0) rfl)) sd sd) (enters_of Try.func39 (by kernel_rfl) rfl) rfl rfl rfl rfl rfl (fun t24 q25 => ?_))
      obtain ⟨B26, d27⟩ := t24
      refine L_op rfl (op_pr (pr_assign rfl rfl) rfl rfl ?_)
      refine L_nil ?_
      refine T_re [(2, (.pointer (some ⟨g1, 0, none⟩))), (7, (.slice B26 ((4 * k) + 4) d27)), (26, (.agg ((hst (shamsg (catp Q)) ((((catp Q).length + (plen ((catp Q).length))) + 64 - 1) / 64)).map b32).toArray)), (27, (.int .i64 ((k : Nat) : Int)))] (sc rfl (sc rfl (sc rfl (sc rfl sn)))) ?_
      refine T_he [0, 1, 2, 3, 4, 5, 6, 7, 8, 9, 10] [.row (.slice B26 ((4 * k) + 4) d27) 5 1 ((4 * k) + 4) (((shaout (hst (shamsg (catp Q)) (((catp Q).length + plen (catp Q).length + 64 - 1) / 64)) k) ++ highb ((ath (hst (shamsg (catp Q)) ((((catp Q).length + (plen ((catp Q).length))) + 64 - 1) / 64)) k).setWidth 64) 4 4).map b8), .obj D (.deferred (some [])), .rd A10 1 ((catp Q).length + (plen ((catp Q).length))) C11 (((catp Q) ++ padb ((catp Q).length)).map b8), .rd (some ⟨g2_19, 0, none⟩) 1 1 1 [(.int .i64 ((64 : Nat) : Int))], .rd (some ⟨g1_18, 0, none⟩) 1 1 1 [(.slice A10 ((catp Q).length + (plen ((catp Q).length))) C11)], .blk g15 55 ((hst (shamsg (catp Q)) ((((catp Q).length + (plen ((catp Q).length))) + 64 - 1) / 64)).map b32), .blk g14 33 (shaK.map b32), .row (.slice B8 (plen ((catp Q).length)) d9) 5 1 (plen ((catp Q).length)) ((padb ((catp Q).length)).map b8), .blk g1 26 ((List.replicate 32 0#8).map b8), .rd A 1 n c (Q.map Pt.sl), .all Q] ⟨by decide, rfl⟩ ?_
      refine T_reg hF rfl ?_
      refine L_op rfl (op_pr (pr_add (na_i64 (a := k) (b := 1) sd) rfl rfl rfl) rfl rfl ?_)
      refine L_op rfl (op_pr (pr_move rfl rfl) rfl rfl ?_)
      refine L_nil ?_
      refine T_re [(2, (.pointer (some ⟨g1, 0, none⟩))), (7, (.slice B26 ((4 * k) + 4) d27)), (26, (.agg ((hst (shamsg (catp Q)) ((((catp Q).length + (plen ((catp Q).length))) + 64 - 1) / 64)).map b32).toArray)), (27, (.int .i64 ((k + 1 : Nat) : Int)))] (sc rfl (sc rfl (sc rfl (sc rfl sn)))) ?_
      refine T_he [0, 1, 2, 3, 4, 5, 6, 7, 8, 9, 10] [.row (.slice B26 ((4 * k) + 4) d27) 5 1 ((4 * k) + 4) (((shaout (hst (shamsg (catp Q)) (((catp Q).length + plen (catp Q).length + 64 - 1) / 64)) k) ++ highb ((ath (hst (shamsg (catp Q)) ((((catp Q).length + (plen ((catp Q).length))) + 64 - 1) / 64)) k).setWidth 64) 4 4).map b8), .obj D (.deferred (some [])), .rd A10 1 ((catp Q).length + (plen ((catp Q).length))) C11 (((catp Q) ++ padb ((catp Q).length)).map b8), .rd (some ⟨g2_19, 0, none⟩) 1 1 1 [(.int .i64 ((64 : Nat) : Int))], .rd (some ⟨g1_18, 0, none⟩) 1 1 1 [(.slice A10 ((catp Q).length + (plen ((catp Q).length))) C11)], .blk g15 55 ((hst (shamsg (catp Q)) ((((catp Q).length + (plen ((catp Q).length))) + 64 - 1) / 64)).map b32), .blk g14 33 (shaK.map b32), .row (.slice B8 (plen ((catp Q).length)) d9) 5 1 (plen ((catp Q).length)) ((padb ((catp Q).length)).map b8), .blk g1 26 ((List.replicate 32 0#8).map b8), .rd A 1 n c (Q.map Pt.sl), .all Q] ⟨by decide, rfl⟩ ?_
      refine T_slot 7 (.slice B26 ((4 * k) + 4) d27) (.slice B26 (4 * (k + 1)) d27) rfl (by first | rfl | (congr 2; omega) | (simp; omega)) ?_
      refine T_as 0 (.row (.slice B26 ((4 * k) + 4) d27) 5 1 ((4 * k) + 4) (((shaout (hst (shamsg (catp Q)) (((catp Q).length + plen (catp Q).length + 64 - 1) / 64)) k) ++ highb ((ath (hst (shamsg (catp Q)) ((((catp Q).length + (plen ((catp Q).length))) + 64 - 1) / 64)) k).setWidth 64) 4 4).map b8)) (.row (.slice B26 (4 * (k + 1)) d27) 5 1 (4 * (k + 1)) ((shaout (hst (shamsg (catp Q)) (((catp Q).length + plen (catp Q).length + 64 - 1) / 64)) (k + 1)).map b8)) rfl (by rw [shaout_succ]; congr 1) ?_
      exact T_again (k + 1, B26, d27) (by first | trivial | ((try dsimp only); first | omega | (refine ⟨?_, ?_⟩ <;> omega) | (refine ⟨?_, ?_, ?_⟩ <;> omega) | (simp; done) | (simp; omega))) (by first | trivial | ((try dsimp only); first | omega | (refine ⟨?_, ?_⟩ <;> omega) | (refine ⟨?_, ?_, ?_⟩ <;> omega) | (simp; done) | (simp; omega))) (sc rfl (sc rfl (sc rfl (sc rfl sn)))) [0, 1, 2, 3, 4, 5, 6, 7, 8, 9, 10] ⟨by decide, rfl⟩
    · skip
      have hc_23 := of_decide_eq_false hc_23
      refine T_exit rfl ?_
      obtain rfl : 8 = k := by omega
      have hk32 := hsol (hst (shamsg (catp Q)) (((catp Q).length + plen (catp Q).length + 64 - 1) / 64)) 8
      refine T_seq ?_
      refine T_reg hF rfl ?_
      refine L_op rfl (op_pr (pr_move rfl rfl) rfl rfl ?_)
      refine L_op rfl (op_pr (pr_s2a sd Try.underlying26 rfl rfl) rfl rfl ?_)
      refine L_op rfl (op_ld (ld_aggs (ds := ((shaout (hst (shamsg (catp Q)) (((catp Q).length + plen (catp Q).length + 64 - 1) / 64)) 8).map b8)) (src_row 0 rfl) (List.take_length) (by have h1 : (((shaout (hst (shamsg (catp Q)) (((catp Q).length + plen (catp Q).length + 64 - 1) / 64)) 8).map b8)).length = 32 := sd; omega) Try.underlying26 rfl (by rw [show (((shaout (hst (shamsg (catp Q)) (((catp Q).length + plen (catp Q).length + 64 - 1) / 64)) 8).map b8)).length = 32 from sd]; kernel_rfl) rfl rfl) rfl rfl ?_)
      refine L_op rfl (op_store (vs := ((shaout (hst (shamsg (catp Q)) (((catp Q).length + plen (catp Q).length + 64 - 1) / 64)) 8).map b8)) (cs' := ((shaout (hst (shamsg (catp Q)) (((catp Q).length + plen (catp Q).length + 64 - 1) / 64)) 8).map b8)) 8 rfl rfl (by rw [show (((shaout (hst (shamsg (catp Q)) (((catp Q).length + plen (catp Q).length + 64 - 1) / 64)) 8).map b8)).length = 32 from sd]; kernel_rfl) (all8_one _) (by have h1 : (((List.replicate 32 0#8).map b8)).length = 32 := (by kernel_rfl); have h2 : (((shaout (hst (shamsg (catp Q)) (((catp Q).length + plen (catp Q).length + 64 - 1) / 64)) 8).map b8)).length = 32 := sd; omega) (splice_all (Eq.trans (b := 32) (by kernel_rfl) (Eq.symm sd))) rfl rfl rfl rfl ?_)
      refine L_nil ?_
      refine T_re [(2, (.pointer (some ⟨g1, 0, none⟩)))] (sc rfl sn) ?_
      refine T_he [0, 1, 2, 3, 4, 5, 6, 7, 8, 9, 10] [.blk g1 26 ((shaout (hst (shamsg (catp Q)) (((catp Q).length + plen (catp Q).length + 64 - 1) / 64)) 8).map b8), .row (.slice A1 (4 * 8) c1) 5 1 (4 * 8) ((shaout (hst (shamsg (catp Q)) (((catp Q).length + plen (catp Q).length + 64 - 1) / 64)) 8).map b8), .obj D (.deferred (some [])), .rd A10 1 ((catp Q).length + (plen ((catp Q).length))) C11 (((catp Q) ++ padb ((catp Q).length)).map b8), .rd (some ⟨g2_19, 0, none⟩) 1 1 1 [(.int .i64 ((64 : Nat) : Int))], .rd (some ⟨g1_18, 0, none⟩) 1 1 1 [(.slice A10 ((catp Q).length + (plen ((catp Q).length))) C11)], .blk g15 55 ((hst (shamsg (catp Q)) ((((catp Q).length + (plen ((catp Q).length))) + 64 - 1) / 64)).map b32), .blk g14 33 (shaK.map b32), .row (.slice B8 (plen ((catp Q).length)) d9) 5 1 (plen ((catp Q).length)) ((padb ((catp Q).length)).map b8), .rd A 1 n c (Q.map Pt.sl), .all Q] ⟨by decide, rfl⟩ ?_
      refine T_ret ?_
      refine T_as 0 (.blk g1 26 ((shaout (hst (shamsg (catp Q)) (((catp Q).length + plen (catp Q).length + 64 - 1) / 64)) 8).map b8)) (.blk g1 26 ((shasum (catp Q)).map b8)) rfl (by rw [shasum_def]) ?_
      exact T_finM 2 rfl () (by first | trivial | omega | (simp; done)) (resb 0 rfl rfl rfl Try.underlying26 rfl (by rw [show (((shasum (catp Q)).map b8)).length = 32 from sd]; kernel_rfl)) [] ⟨by decide, rfl⟩ rfl
  · exact fun D t hq => hq.elim
end Go.Proofs.Ytmhkmamenfmolaa
