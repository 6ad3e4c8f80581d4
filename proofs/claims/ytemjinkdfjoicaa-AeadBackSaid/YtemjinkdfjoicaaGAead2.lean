/- What Seal and Open answer, by facts. Conditions: none but the lengths that each says. -/
import Derived.Test.YtemjinkdfjoicaaGAead
import Derived.Test.YtemjinkdfjoicaaProg
import Derived.Test.YtemjinkdfjoicaaFwU
namespace Go.Proofs.Ytemjinkdfjoicaa
set_option linter.unusedVariables false
set_option linter.unusedSimpArgs false
set_option linter.unnecessarySimpa false
open Go.RowKit Bv Fw

theorem z16_len (xs : List (BitVec 8)) (n : Nat) (h : xs.length = n) : (z16 xs).length = (16 - n % 16) % 16 := by rw [← z16_def xs n h, List.length_replicate]
theorem eight_len (v : BitVec 64) : (lowb v 8).length = 8 := lowb_len v 8
theorem padk (n k : Nat) (h : k ≤ (16 - n % 16) % 16) (h2 : (n + k) % 16 = 0) : k = (16 - n % 16) % 16 := by omega
theorem padk_lt (n k : Nat) (h : k ≤ (16 - n % 16) % 16) (h2 : ¬ (n + k) % 16 = 0) : k < (16 - n % 16) % 16 := by omega
theorem lowb_succ (v : BitVec 64) (k : Nat) : lowb v (k + 1) = lowb v k ++ [(v >>> (8 * k)).setWidth 8] := rfl
theorem lens8_of (a c : List (BitVec 8)) (n m : Nat) (h : a.length = n) (h2 : c.length = m) (x : List (BitVec 8)) : x ++ lowb (BitVec.ofNat 64 n) 8 ++ lowb (BitVec.ofNat 64 m) 8 = x ++ lens8 a c := by subst h; subst h2; unfold lens8; rw [List.append_assoc]

set_option maxHeartbeats 4000000 in
theorem eight_f (n : Nat) (w : World) (hO : HOK [] w) (hn : n ≤ 100000000) : Calls Try.prog 60 [(.int .i64 ((n : Nat) : Int))].toArray w (Ret (T := Option Addr × Nat) [] w (fun ⟨B, d⟩ => True) (fun ⟨B, d⟩ => (.slice B 8 d)) (fun ⟨B, d⟩ => [.row (.slice B 8 d) 5 1 8 ((lowb (BitVec.ofNat 64 n) 8).map b8)])) := by
 have hF : Wid Fence.wide := wid_wide
 refine enter (c := _) Try.func60 rfl [] [(.int .i64 ((n : Nat) : Int))] [] (by rw [Try.ntmps60]; rfl) (own_rds hO rfl) ?_
 rw [Try.ntmps60]
 refine T_re [(0, (.int .i64 ((n : Nat) : Int)))] (sc rfl sn) ?_
 refine T_he [] [] ⟨by decide, rfl⟩ ?_
 refine Tsr hF rfl ?_
 refine la rfl rfl rfl rfl rfl ?_
 refine L_nil ?_
 refine Tsr hF rfl ?_
 refine la rfl rfl rfl rfl rfl ?_
 refine L_nil ?_
 refine T_seq ?_
 refine Tsr hF rfl ?_
 refine la rfl rfl rfl rfl rfl ?_
 refine L_nil ?_
 refine T_block ?_
 refine T_nilrow 5 1 ?_
 refine T_as 0 _ (.row (.slice none 0 0) 5 1 0 ((lowb (BitVec.ofNat 64 n) 0).map b8)) rfl (rfl) ?_
 refine T_loop (T := Nat × Option Addr × Nat) (fun ⟨i, A1, c1⟩ => i ≤ 8) (fun ⟨i, A1, c1⟩ => [(0, (.int .i64 ((n : Nat) : Int))), (3, (.slice A1 i c1)), (4, (.int .i64 ((i : Nat) : Int)))]) (fun ⟨i, A1, c1⟩ => [.row (.slice A1 i c1) 5 1 i ((lowb (BitVec.ofNat 64 n) i).map b8)]) (fun ⟨i, A1, c1⟩ => 8 - i) (0, none, 0) (by first | trivial | ((try dsimp only); first | omega | (refine ⟨?_, ?_⟩ <;> omega) | (refine ⟨?_, ?_, ?_⟩ <;> omega) | (simp; done) | (simp; omega))) (sc rfl (sc rfl (sc rfl sn))) [0] ⟨by decide, rfl⟩ ?_
 rintro ⟨i, A1, c1⟩ hp
 have hp : i ≤ 8 := hp
 refine T_re [(0, (.int .i64 ((n : Nat) : Int))), (3, (.slice A1 i c1)), (4, (.int .i64 ((i : Nat) : Int)))] (sc rfl (sc rfl (sc rfl sn))) ?_
 refine T_he [0] [.row (.slice A1 i c1) 5 1 i ((lowb (BitVec.ofNat 64 n) i).map b8)] ⟨by decide, rfl⟩ ?_
 refine T_seq ?_
 refine Tsr hF rfl ?_
 refine lm rfl rfl rfl rfl rfl ?_
 refine lo rfl (pr_cmp (bo := .lss) (nc_lt (a := i) (b := 8)) rfl rfl rfl rfl) rfl rfl ?_
 refine L_nil ?_
 refine T_cond (decide (i < 8)) rfl (fun hc_1 => ?_) (fun hc_1 => ?_)
 ·
  have hc_1 := of_decide_eq_true hc_1
  refine T_skip ?_
  refine T_seq ?_
  refine T_block ?_
  refine T_reg hF rfl ?_
  refine lm rfl rfl rfl rfl rfl ?_
  refine lm rfl rfl rfl rfl rfl ?_
  refine lo rfl (pr_cv (nw64 n) Try.underlying3 Try.underlying49 rfl rfl) rfl rfl ?_
  refine lm rfl rfl rfl rfl rfl ?_
  refine lo rfl (pr_mul (nm_i64 (a := 8) (b := i) sd) rfl rfl rfl) rfl rfl ?_
  refine lo rfl (pr_cv (ni_u64 (a := 8 * i) sd) Try.underlying3 Try.underlying33 rfl rfl) rfl rfl ?_
  refine lo rfl (pr_shift (sh_shr64 (BitVec.ofNat 64 n) _ (8 * i)) rfl rfl rfl rfl) rfl rfl ?_
  refine lo rfl (pr_cv (cv64_8 _) Try.underlying49 Try.underlying5 rfl rfl) rfl rfl ?_
  refine L_op rfl (op_bslice (e := 5) (zs := [(b8 (((BitVec.ofNat 64 n) >>> (8 * i)).setWidth 8))]) (qs := [(0, (b8 (((BitVec.ofNat 64 n) >>> (8 * i)).setWidth 8)))]) (fun _ => by kernel_rfl) rfl rfl rfl rfl (fun g2 => ?_))
  refine L_op rfl (op_append (z := (b8 (0#8))) (size := 1) (bytes := 1) 1 rfl Try.underlying25 kr kr (by decide) (src_full (z := 1) 0 rfl rfl sd sd) (by simp [Value.oneCell']) sd sd rfl rfl rfl rfl rfl (fun A3 C4 => ?_))
  refine T_as 0 _ (.row (.slice A3 (i + 1) C4) 5 1 (i + 1) (((lowb (BitVec.ofNat 64 n) i) ++ [(((BitVec.ofNat 64 n) >>> (8 * i)).setWidth 8)]).map b8)) rfl (by first | rfl | (congr 1; simp; done) | (simp only [List.map_append]; rfl) | (rw [List.map_append]; rfl)) ?_
  refine la rfl rfl rfl rfl rfl ?_
  refine L_nil ?_
  refine T_reg hF rfl ?_
  refine lm rfl rfl rfl rfl rfl ?_
  refine lo rfl (pr_add (na_i64 (a := i) (b := 1) sd) rfl rfl rfl) rfl rfl ?_
  refine la rfl rfl rfl rfl rfl ?_
  refine L_nil ?_
  refine T_as 0 _ (.row (.slice A3 (i + 1) C4) 5 1 (i + 1) ((lowb (BitVec.ofNat 64 n) (i + 1)).map b8)) rfl (by rw [lowb_succ]) ?_
  exact T_again (i + 1, A3, C4) (by first | trivial | ((try dsimp only); first | omega | (refine ⟨?_, ?_⟩ <;> omega) | (refine ⟨?_, ?_, ?_⟩ <;> omega) | (simp; done) | (simp; omega))) (by first | trivial | ((try dsimp only); first | omega | (refine ⟨?_, ?_⟩ <;> omega) | (refine ⟨?_, ?_, ?_⟩ <;> omega) | (simp; done) | (simp; omega))) (sc rfl (sc rfl (sc rfl sn))) [0] ⟨by decide, rfl⟩
 ·
  have hc_1 := of_decide_eq_false hc_1
  refine T_exit rfl ?_
  obtain rfl : 8 = i := by omega
  refine Tsr hF rfl ?_
  refine lm rfl rfl rfl rfl rfl ?_
  refine la rfl rfl rfl rfl rfl ?_
  refine L_nil ?_
  refine T_ret ?_
  exact T_fin (A1, c1) (by first | trivial | omega | (simp; done)) (res1 rfl rfl) [0] ⟨by decide, rfl⟩ rfl
set_option maxHeartbeats 4000000 in
theorem rpadded_f (xs : List (BitVec 8)) (A : Option Addr) (n : Nat) (c : Nat) (w : World) (hO : HOK [.rd A 1 n c (xs.map b8)] w) (hx : xs.length = n) (hn : n ≤ 100000000) : Calls Try.prog 59 [(.slice A n c)].toArray w (Ret (T := Option Addr × Nat) [] w (fun ⟨B, d⟩ => True) (fun ⟨B, d⟩ => (.slice B (n + (16 - n % 16) % 16) d)) (fun ⟨B, d⟩ => [.row (.slice B (n + (16 - n % 16) % 16) d) 5 1 (n + (16 - n % 16) % 16) ((xs ++ z16 xs).map b8)])) := by
 have hF : Wid Fence.wide := wid_wide
 refine enter (c := _) Try.func59 rfl [] [(.slice A n c)] [.rd A 1 n c (xs.map b8)] (by rw [Try.ntmps59]; rfl) (own_rds hO rfl) ?_
 rw [Try.ntmps59]
 refine T_re [(0, (.slice A n c))] (sc rfl sn) ?_
 refine T_he [0] [.rd A 1 n c (xs.map b8)] ⟨by decide, rfl⟩ ?_
 refine Tsr hF rfl ?_
 refine la rfl rfl rfl rfl rfl ?_
 refine L_nil ?_
 refine Tsr hF rfl ?_
 refine lm rfl rfl rfl rfl rfl ?_
 refine T_nilrow 5 1 ?_
 refine L_op rfl (op_append (z := (b8 (0#8))) (size := 1) (bytes := 1) 0 rfl Try.underlying25 kr kr (by decide) (src_rd 1 rfl) (all8_one _) sd sd rfl rfl rfl rfl rfl (fun A1 C2 => ?_))
 refine T_as 0 _ (.row (.slice A1 (0 + n) C2) 5 1 (0 + n) (xs.map b8)) rfl (by first | rfl | (congr 1; simp; done) | (simp only [List.map_append]; rfl) | (rw [List.map_append]; rfl)) ?_
 refine la rfl rfl rfl rfl rfl ?_
 refine L_nil ?_
 refine T_seq ?_
 refine T_block ?_
 refine T_slot 3 (.slice A1 (0 + n) C2) (.slice A1 (n + 0) C2) rfl (by congr 1; omega) ?_
 refine T_as 0 _ (.row (.slice A1 (n + 0) C2) 5 1 (n + 0) ((xs ++ List.replicate 0 0#8).map b8)) rfl (by congr 1 <;> first | rfl | omega | (congr 1; omega) | simp) ?_
 refine T_loop (T := Nat × Option Addr × Nat) (fun ⟨k, A1, c1⟩ => k ≤ (16 - n % 16) % 16) (fun ⟨k, A1, c1⟩ => [(3, (.slice A1 (n + k) c1))]) (fun ⟨k, A1, c1⟩ => [.row (.slice A1 (n + k) c1) 5 1 (n + k) ((xs ++ List.replicate k 0#8).map b8), .rd A 1 n c (xs.map b8)]) (fun ⟨k, A1, c1⟩ => (16 - n % 16) % 16 - k) (0, A1, C2) (by first | trivial | ((try dsimp only); first | omega | (refine ⟨?_, ?_⟩ <;> omega) | (refine ⟨?_, ?_, ?_⟩ <;> omega) | (simp; done) | (simp; omega))) (sc rfl sn) [0, 1] ⟨by decide, rfl⟩ ?_
 rintro ⟨k, A1, c1⟩ hp
 have hp : k ≤ (16 - n % 16) % 16 := hp
 refine T_re [(3, (.slice A1 (n + k) c1))] (sc rfl sn) ?_
 refine T_he [0, 1] [.row (.slice A1 (n + k) c1) 5 1 (n + k) ((xs ++ List.replicate k 0#8).map b8), .rd A 1 n c (xs.map b8)] ⟨by decide, rfl⟩ ?_
 refine T_seq ?_
 refine Tsr hF rfl ?_
 refine lm rfl rfl rfl rfl rfl ?_
 refine lo rfl (pr_len_sl Try.underlying25 rfl rfl) rfl rfl ?_
 refine lo rfl (pr_rem (a := n + k) (b := 16) sd rfl rfl rfl) rfl rfl ?_
 refine lo rfl (pr_cmp (bo := .neq) (nc_ne (a := (n + k) % 16) (b := 0)) rfl rfl rfl rfl) rfl rfl ?_
 refine L_nil ?_
 refine T_cond ((n + k) % 16 != 0) rfl (fun hc_3 => ?_) (fun hc_3 => ?_)
 ·
  have hc_3 : ¬ (n + k) % 16 = 0 := by simpa using hc_3
  refine T_skip ?_
  refine T_block ?_
  refine T_reg hF rfl ?_
  refine lm rfl rfl rfl rfl rfl ?_
  refine L_op rfl (op_bslice (e := 5) (zs := [(b8 (0#8))]) (qs := [(0, (b8 (0#8)))]) (fun _ => by kernel_rfl) rfl rfl rfl rfl (fun g4 => ?_))
  refine L_op rfl (op_append (z := (b8 (0#8))) (size := 1) (bytes := 1) 1 rfl Try.underlying25 kr kr (by decide) (src_full (z := 1) 0 rfl rfl sd sd) (by simp [Value.oneCell']) sd sd rfl rfl rfl rfl rfl (fun A5 C6 => ?_))
  refine T_as 0 _ (.row (.slice A5 (n + k + 1) C6) 5 1 (n + k + 1) (((xs ++ List.replicate k 0#8) ++ [0#8]).map b8)) rfl (by first | rfl | (congr 1; simp; done) | (simp only [List.map_append]; rfl) | (rw [List.map_append]; rfl)) ?_
  refine la rfl rfl rfl rfl rfl ?_
  refine L_nil ?_
  refine T_slot 3 (.slice A5 (n + k + 1) C6) (.slice A5 (n + (k + 1)) C6) rfl (by rfl) ?_
  refine T_as 0 _ (.row (.slice A5 (n + (k + 1)) C6) 5 1 (n + (k + 1)) ((xs ++ List.replicate (k + 1) 0#8).map b8)) rfl (by rw [List.replicate_succ', ← List.append_assoc]; rfl) ?_
  exact T_again (k + 1, A5, C6) (padk_lt n k hp (by assumption)) (by have := padk_lt n k hp (by assumption); dsimp only; omega) (sc rfl sn) [0, 2] ⟨by decide, rfl⟩
 ·
  have hc_3 : (n + k) % 16 = 0 := by simpa using hc_3
  refine T_exit rfl ?_
  obtain rfl : ((16 - n % 16) % 16) = k := (padk n k hp (by assumption)).symm
  refine Tsr hF rfl ?_
  refine lm rfl rfl rfl rfl rfl ?_
  refine la rfl rfl rfl rfl rfl ?_
  refine L_nil ?_
  refine T_ret ?_
  refine T_slot 2 (.slice A1 (n + ((16 - n % 16) % 16)) c1) (.slice A1 (n + (16 - n % 16) % 16) c1) rfl (by rfl) ?_
  refine T_as 0 _ (.row (.slice A1 (n + (16 - n % 16) % 16) c1) 5 1 (n + (16 - n % 16) % 16) ((xs ++ z16 xs).map b8)) rfl (by rw [z16_def xs n hx]) ?_
  exact T_fin (A1, c1) (by first | trivial | omega | (simp; done)) (res1 rfl rfl) [0] ⟨by decide, rfl⟩ rfl
set_option maxRecDepth 100000 in
set_option maxHeartbeats 4000000 in
theorem ratag_f (key : List (BitVec 8)) (nonce : List (BitVec 8)) (aad : List (BitVec 8)) (cs : List (BitVec 8)) (A1 : Option Addr) (n1 : Nat) (c1 : Nat) (A2 : Option Addr) (n2 : Nat) (c2 : Nat) (w : World) (hO : HOK [.rd A1 1 n1 c1 (aad.map b8), .rd A2 1 n2 c2 (cs.map b8)] w) (hk : key.length = 32) (hn : nonce.length = 12) (h1 : aad.length = n1) (h2 : cs.length = n2) (h3 : n1 ≤ 100000000) (h4 : n2 ≤ 100000000) : Calls Try.prog 46 [(.agg (key.map b8).toArray), (.agg (nonce.map b8).toArray), (.slice A1 n1 c1), (.slice A2 n2 c2)].toArray w (Ret (T := Unit) [] w (fun _ => True) (fun _ => (.agg ((atag key nonce aad cs).map b8).toArray)) (fun _ => [])) := by
 have hbl := cblock_len key 0#32 nonce
 have hal := atext_le aad cs
 have htl := atag_len key nonce aad cs
 have h32 : (List.take 32 (cblock key 0#32 nonce)).length = 32 := by rw [List.length_take, hbl]; rfl
 have hz1 := z16_len aad n1 h1
 have hz2 := z16_len cs n2 h2
 have hb1 := lowb_len (BitVec.ofNat 64 n1) 8
 have hb2 := lowb_len (BitVec.ofNat 64 n2) 8
 have hF : Wid Fence.wide := wid_wide
 refine enter (c := _) Try.func46 rfl [] [(.agg (key.map b8).toArray), (.agg (nonce.map b8).toArray), (.slice A1 n1 c1), (.slice A2 n2 c2)] [.rd A1 1 n1 c1 (aad.map b8), .rd A2 1 n2 c2 (cs.map b8)] (by rw [Try.ntmps46]; rfl) (own_rds hO rfl) ?_
 rw [Try.ntmps46]
 refine T_re [(0, (.agg (key.map b8).toArray)), (1, (.agg (nonce.map b8).toArray)), (2, (.slice A1 n1 c1)), (3, (.slice A2 n2 c2))] (sc rfl (sc rfl (sc rfl (sc rfl sn)))) ?_
 refine T_he [0, 1] [.rd A1 1 n1 c1 (aad.map b8), .rd A2 1 n2 c2 (cs.map b8)] ⟨by decide, rfl⟩ ?_
 refine Tsr hF rfl ?_
 refine L_op rfl (op_box (zs := (key.map b8)) rfl rfl rfl rfl rfl (fun g1 => ?_))
 refine L_op rfl (op_box (zs := (nonce.map b8)) rfl rfl rfl rfl rfl (fun g2 => ?_))
 refine L_op rfl (op_alloc (z := .agg ((List.replicate 16 0#8).map b8).toArray) (zs := ((List.replicate 16 0#8).map b8)) kr rfl rfl rfl rfl (fun g3 => ?_))
 refine L_nil ?_
 refine Tsr hF rfl ?_
 refine lq rfl (ld_agg (ds := (key.map b8)) 2 rfl agg_all Try.underlying22 rfl (fwz (n := 32) kr sd) rfl rfl) rfl rfl ?_
 refine lq rfl (ld_agg (ds := (nonce.map b8)) 1 rfl agg_all Try.underlying38 rfl (fwz (n := 12) kr sd) rfl rfl) rfl rfl ?_
 refine L_op rfl (op_cn (fun w hw => crblock_f key (0#32) nonce w (hok_nil w) (by first | assumption | exact sd) (by first | assumption | exact sd)) (enters_of Try.func58 kr rfl) rfl rfl rfl rfl rfl (fun t4 q5 => ?_))
 refine L_op rfl (op_alloc (z := .agg ((List.replicate 64 0#8).map b8).toArray) (zs := ((List.replicate 64 0#8).map b8)) kr rfl rfl rfl rfl (fun g6 => ?_))
 refine L_op rfl (op_sto (n := 64) (vs := ((cblock key (0#32) nonce).map b8)) 0 rfl rfl kr (all8_one _) kr sd rfl rfl rfl rfl ?_)
 refine L_nil ?_
 refine Tsr hF rfl ?_
 refine L_op rfl (op_alloc (z := .agg ((List.replicate 32 0#8).map b8).toArray) (zs := ((List.replicate 32 0#8).map b8)) kr rfl rfl rfl rfl (fun g7 => ?_))
 refine L_nil ?_
 refine T_seq ?_
 refine Tsr hF rfl ?_
 refine la rfl rfl rfl rfl rfl ?_
 refine L_nil ?_
 refine T_block ?_
 refine T_as 0 _ (.blk g7 22 ((prez (List.take 32 (cblock key 0#32 nonce)) 32 0).map b8)) rfl (by rw [← prez_zero]) ?_
 refine T_loop (T := Nat) (fun i => i ≤ 32) (fun i => [(2, (.slice A1 n1 c1)), (3, (.slice A2 n2 c2)), (8, (.pointer (some ⟨g3, 0, none⟩))), (9, (.pointer (some ⟨g6, 0, none⟩))), (10, (.pointer (some ⟨g7, 0, none⟩))), (11, (.int .i64 ((i : Nat) : Int)))]) (fun i => [.blk g7 22 ((prez (List.take 32 (cblock key 0#32 nonce)) 32 i).map b8), .blk g6 84 ((cblock key (0#32) nonce).map b8), .blk g3 27 ((List.replicate 16 0#8).map b8), .blk g2 38 (nonce.map b8), .blk g1 22 (key.map b8), .rd A1 1 n1 c1 (aad.map b8), .rd A2 1 n2 c2 (cs.map b8)]) (fun i => 32 - i) 0 (by first | trivial | ((try dsimp only); first | omega | (refine ⟨?_, ?_⟩ <;> omega) | (refine ⟨?_, ?_, ?_⟩ <;> omega) | (simp; done) | (simp; omega))) (sc rfl (sc rfl (sc rfl (sc rfl (sc rfl (sc rfl sn)))))) [0, 1, 2, 3, 4, 5, 6] ⟨by decide, rfl⟩ ?_
 rintro i hp
 have hp : i ≤ 32 := hp
 have hpz := prez_len (List.take 32 (cblock key 0#32 nonce)) 32 i h32 hp
 refine T_re [(2, (.slice A1 n1 c1)), (3, (.slice A2 n2 c2)), (8, (.pointer (some ⟨g3, 0, none⟩))), (9, (.pointer (some ⟨g6, 0, none⟩))), (10, (.pointer (some ⟨g7, 0, none⟩))), (11, (.int .i64 ((i : Nat) : Int)))] (sc rfl (sc rfl (sc rfl (sc rfl (sc rfl (sc rfl sn)))))) ?_
 refine T_he [0, 1, 2, 3, 4, 5, 6] [.blk g7 22 ((prez (List.take 32 (cblock key 0#32 nonce)) 32 i).map b8), .blk g6 84 ((cblock key (0#32) nonce).map b8), .blk g3 27 ((List.replicate 16 0#8).map b8), .blk g2 38 (nonce.map b8), .blk g1 22 (key.map b8), .rd A1 1 n1 c1 (aad.map b8), .rd A2 1 n2 c2 (cs.map b8)] ⟨by decide, rfl⟩ ?_
 refine T_seq ?_
 refine Tsr hF rfl ?_
 refine lm rfl rfl rfl rfl rfl ?_
 refine lo rfl (pr_cmp (bo := .lss) (nc_lt (a := i) (b := 32)) rfl rfl rfl rfl) rfl rfl ?_
 refine L_nil ?_
 refine T_cond (decide (i < 32)) rfl (fun hc_8 => ?_) (fun hc_8 => ?_)
 ·
  have hc_8 := of_decide_eq_true hc_8
  refine T_skip ?_
  refine T_seq ?_
  refine T_block ?_
  refine T_reg hF rfl ?_
  refine lm rfl rfl rfl rfl rfl ?_
  refine lm rfl rfl rfl rfl rfl ?_
  refine lo rfl (pr_ixa (j := i) (m' := i) sd (by omega) Try.underlying84 (z := 1) kr rfl rfl rfl) rfl rfl ?_
  refine lq rfl (ld_blk 1 rfl (get8 sd) Try.underlying5 rfl rfl rfl) rfl rfl ?_
  refine lo rfl (pr_ixa (j := i) (m' := i) sd (by omega) Try.underlying22 (z := 1) kr rfl rfl rfl) rfl rfl ?_
  refine L_op rfl (op_store (vs := [(b8 (ath (cblock key (0#32) nonce) i))]) (cs' := ((List.set (prez (List.take 32 (cblock key 0#32 nonce)) 32 i) i (ath (cblock key (0#32) nonce) i)).map b8)) 0 rfl rfl kr (one_one rfl) (stl sd) (splice_map (f := b8) sd) rfl rfl rfl rfl ?_)
  refine L_nil ?_
  refine T_reg hF rfl ?_
  refine lm rfl rfl rfl rfl rfl ?_
  refine lo rfl (pr_add (na_i64 (a := i) (b := 1) sd) rfl rfl rfl) rfl rfl ?_
  refine la rfl rfl rfl rfl rfl ?_
  refine L_nil ?_
  refine T_as 0 _ (.blk g7 22 ((prez (List.take 32 (cblock key 0#32 nonce)) 32 (i + 1)).map b8)) rfl (by rw [prez_set (List.take 32 (cblock key 0#32 nonce)) 32 i h32 (by omega) _ (by rw [ath_take _ _ _ (by omega)])]) ?_
  exact T_again (i + 1) (by first | trivial | ((try dsimp only); first | omega | (refine ⟨?_, ?_⟩ <;> omega) | (refine ⟨?_, ?_, ?_⟩ <;> omega) | (simp; done) | (simp; omega))) (by first | trivial | ((try dsimp only); first | omega | (refine ⟨?_, ?_⟩ <;> omega) | (refine ⟨?_, ?_, ?_⟩ <;> omega) | (simp; done) | (simp; omega))) (sc rfl (sc rfl (sc rfl (sc rfl (sc rfl (sc rfl sn)))))) [0, 1, 2, 3, 4, 5, 6] ⟨by decide, rfl⟩
 ·
  have hc_8 := of_decide_eq_false hc_8
  refine T_exit rfl ?_
  obtain rfl : 32 = i := by omega
  refine T_as 0 _ (.blk g7 22 ((List.take 32 (cblock key 0#32 nonce)).map b8)) rfl (by rw [prez_all _ _ h32]) ?_
  refine Tsr hF rfl ?_
  refine lm rfl rfl rfl rfl rfl ?_
  refine L_op rfl (op_cn (fun w hw => rpadded_f aad A1 n1 c1 w (hok_cons ((src_rd 5 rfl) w hw) (hok_nil w)) (by first | assumption | exact sd) sd) (enters_of Try.func59 kr rfl) rfl rfl rfl rfl rfl (fun t9 q10 => ?_))
  obtain ⟨B11, d12⟩ := t9
  refine lm rfl rfl rfl rfl rfl ?_
  refine L_op rfl (op_cn (fun w hw => rpadded_f cs A2 n2 c2 w (hok_cons ((src_rd 7 rfl) w hw) (hok_nil w)) (by first | assumption | exact sd) sd) (enters_of Try.func59 kr rfl) rfl rfl rfl rfl rfl (fun t13 q14 => ?_))
  obtain ⟨B15, d16⟩ := t13
  refine L_op rfl (op_append (z := (b8 (0#8))) (size := 1) (bytes := 1) 1 rfl Try.underlying25 kr kr (by decide) (src_row 0 rfl) (all8_one _) sd sd rfl rfl rfl rfl rfl (fun A17 C18 => ?_))
  refine T_as 0 _ (.row (.slice A17 (n1 + (16 - n1 % 16) % 16 + (n2 + (16 - n2 % 16) % 16)) C18) 5 1 (n1 + (16 - n1 % 16) % 16 + (n2 + (16 - n2 % 16) % 16)) (((aad ++ z16 aad) ++ (cs ++ z16 cs)).map b8)) rfl (by first | rfl | (congr 1; simp; done) | (simp only [List.map_append]; rfl) | (rw [List.map_append]; rfl)) ?_
  refine la rfl rfl rfl rfl rfl ?_
  refine L_nil ?_
  refine Tsr hF rfl ?_
  refine lm rfl rfl rfl rfl rfl ?_
  refine lm rfl rfl rfl rfl rfl ?_
  refine lo rfl (pr_len_sl Try.underlying25 rfl rfl) rfl rfl ?_
  refine L_op rfl (op_cn (fun w hw => eight_f n1 w (hok_nil w) sd) (enters_of Try.func60 kr rfl) rfl rfl rfl rfl rfl (fun t19 q20 => ?_))
  obtain ⟨B21, d22⟩ := t19
  refine L_op rfl (op_append (z := (b8 (0#8))) (size := 1) (bytes := 1) 1 rfl Try.underlying25 kr kr (by decide) (src_row 0 rfl) (all8_one _) sd sd rfl rfl rfl rfl rfl (fun A23 C24 => ?_))
  refine T_as 0 _ (.row (.slice A23 (n1 + (16 - n1 % 16) % 16 + (n2 + (16 - n2 % 16) % 16) + 8) C24) 5 1 (n1 + (16 - n1 % 16) % 16 + (n2 + (16 - n2 % 16) % 16) + 8) ((((aad ++ z16 aad) ++ (cs ++ z16 cs)) ++ (lowb (BitVec.ofNat 64 n1) 8)).map b8)) rfl (by first | rfl | (congr 1; simp; done) | (simp only [List.map_append]; rfl) | (rw [List.map_append]; rfl)) ?_
  refine la rfl rfl rfl rfl rfl ?_
  refine L_nil ?_
  refine T_seq ?_
  refine T_regD [.row (.slice A23 (n1 + (16 - n1 % 16) % 16 + (n2 + (16 - n2 % 16) % 16) + 8) C24) 5 1 (n1 + (16 - n1 % 16) % 16 + (n2 + (16 - n2 % 16) % 16) + 8) ((((aad ++ z16 aad) ++ (cs ++ z16 cs)) ++ (lowb (BitVec.ofNat 64 n1) 8)).map b8), .row (.slice B21 8 d22) 5 1 8 ((lowb (BitVec.ofNat 64 n1) 8).map b8), .row (.slice B15 (n2 + (16 - n2 % 16) % 16) d16) 5 1 (n2 + (16 - n2 % 16) % 16) ((cs ++ z16 cs).map b8), .blk g7 22 ((List.take 32 (cblock key 0#32 nonce)).map b8), .blk g6 84 ((cblock key (0#32) nonce).map b8), .blk g3 27 ((List.replicate 16 0#8).map b8), .blk g2 38 (nonce.map b8), .blk g1 22 (key.map b8), .rd A1 1 n1 c1 (aad.map b8), .rd A2 1 n2 c2 (cs.map b8)] 5 8 #[false, false, false, false, false, false, false, false] hF kr kr ?_
  refine D_pure (i := 1) [0, 1, 2, 3, 4, 5, 6, 7, 8, 9] rfl kr rfl (pr_move rfl rfl) (.inr rfl) rfl rfl ?_
  refine D_pure (i := 2) [0, 1, 2, 3, 4, 5, 6, 7, 8, 9] rfl kr rfl (pr_move rfl rfl) (.inr rfl) rfl rfl ?_
  refine D_pure (i := 3) [0, 1, 2, 3, 4, 5, 6, 7, 8, 9] rfl kr rfl (pr_len_sl Try.underlying25 rfl rfl) (.inr rfl) rfl rfl ?_
  refine D_join (T := Unit) (fun _ => True) (fun _ => [(8, (.pointer (some ⟨g3, 0, none⟩)))]) (fun _ => [.blk g3 27 ((atag key nonce aad cs).map b8), .row (.slice B21 8 d22) 5 1 8 ((lowb (BitVec.ofNat 64 n1) 8).map b8), .row (.slice B15 (n2 + (16 - n2 % 16) % 16) d16) 5 1 (n2 + (16 - n2 % 16) % 16) ((cs ++ z16 cs).map b8), .blk g7 22 ((List.take 32 (cblock key 0#32 nonce)).map b8), .blk g6 84 ((cblock key (0#32) nonce).map b8), .blk g2 38 (nonce.map b8), .blk g1 22 (key.map b8), .rd A1 1 n1 c1 (aad.map b8), .rd A2 1 n2 c2 (cs.map b8)]) ?_ ?_
  ·
   refine D_all [0, 4] kr (by simp) ⟨⟨_, rfl, rfl, ?_⟩, ⟨_, rfl, rfl, ?_⟩, trivial⟩
   ·
    refine id (op_ld (ld_agg (ds := ((List.take 32 (cblock key 0#32 nonce)).map b8)) 3 rfl agg_all Try.underlying22 rfl (fwz (n := 32) kr sd) rfl rfl) rfl rfl ?_)
    refine D_on [0, 1, 2, 3, 4, 5, 6, 7, 8, 9] rfl ?_
    refine D_one 4 _ rfl kr rfl (op_cn (fun w hw => eight_f n2 w (hok_nil w) sd) (enters_of Try.func60 kr rfl) rfl rfl rfl rfl rfl (fun t33 q34 => ?_))
    obtain ⟨B35, d36⟩ := t33
    refine D_on [1, 2, 3, 4, 5, 6, 7, 8, 9, 10] rfl ?_
    refine D_one 5 _ rfl kr rfl (op_append (z := (b8 (0#8))) (size := 1) (bytes := 1) 1 rfl Try.underlying25 kr kr (by decide) (src_row 0 rfl) (all8_one _) sd sd rfl rfl rfl rfl rfl (fun A37 C38 => ?_))
    refine T_as 0 _ (.row (.slice A37 (n1 + (16 - n1 % 16) % 16 + (n2 + (16 - n2 % 16) % 16) + 8 + 8) C38) 5 1 (n1 + (16 - n1 % 16) % 16 + (n2 + (16 - n2 % 16) % 16) + 8 + 8) (((((aad ++ z16 aad) ++ (cs ++ z16 cs)) ++ (lowb (BitVec.ofNat 64 n1) 8)) ++ (lowb (BitVec.ofNat 64 n2) 8)).map b8)) rfl (by first | rfl | (congr 1; simp; done) | (simp only [List.map_append]; rfl) | (rw [List.map_append]; rfl)) ?_
    refine D_past kr ?_
    refine D_one 6 _ rfl kr rfl (op_cn (fun w hw => rtag_f (List.take 32 (cblock key 0#32 nonce)) ((((aad ++ z16 aad) ++ (cs ++ z16 cs)) ++ (lowb (BitVec.ofNat 64 n1) 8)) ++ (lowb (BitVec.ofNat 64 n2) 8)) A37 (n1 + (16 - n1 % 16) % 16 + (n2 + (16 - n2 % 16) % 16) + 8 + 8) C38 w (hok_cons ((src_row 0 rfl) w hw) (hok_nil w)) sd (by first | assumption | omega | (simp; done) | (simp; omega)) sd) (enters_of Try.func19 kr rfl) rfl rfl rfl rfl rfl (fun t39 q40 => ?_))
    refine T_slot 41 _ (.agg ((atag key nonce aad cs).map b8).toArray) rfl (by rw [lens8_of aad cs n1 n2 h1 h2, atext_def, atag_def]) ?_
    refine D_past kr ?_
    refine D_one 7 _ rfl kr rfl (op_sto (n := 16) (vs := ((atag key nonce aad cs).map b8)) 6 rfl rfl kr (all8_one _) kr sd rfl rfl rfl rfl ?_)
    refine D_past kr ?_
    refine D_done kr ?_
    exact T_meet () trivial (sc rfl sn) [0, 3, 4, 5, 6, 7, 8, 9, 10] ⟨by decide, rfl⟩
   ·
    refine id (op_cn (fun w hw => eight_f n2 w (hok_nil w) sd) (enters_of Try.func60 kr rfl) rfl rfl rfl rfl rfl (fun t41 q42 => ?_))
    obtain ⟨B43, d44⟩ := t41
    refine D_on [1, 2, 3, 4, 5, 6, 7, 8, 9, 10] rfl ?_
    refine D_all [0, 5] kr (by simp) ⟨⟨_, rfl, rfl, ?_⟩, ⟨_, rfl, rfl, ?_⟩, trivial⟩
    ·
     refine id (op_ld (ld_agg (ds := ((List.take 32 (cblock key 0#32 nonce)).map b8)) 4 rfl agg_all Try.underlying22 rfl (fwz (n := 32) kr sd) rfl rfl) rfl rfl ?_)
     refine D_on [1, 2, 3, 4, 5, 6, 7, 8, 9, 10] rfl ?_
     refine D_one 5 _ rfl kr rfl (op_append (z := (b8 (0#8))) (size := 1) (bytes := 1) 1 rfl Try.underlying25 kr kr (by decide) (src_row 0 rfl) (all8_one _) sd sd rfl rfl rfl rfl rfl (fun A45 C46 => ?_))
     refine T_as 0 _ (.row (.slice A45 (n1 + (16 - n1 % 16) % 16 + (n2 + (16 - n2 % 16) % 16) + 8 + 8) C46) 5 1 (n1 + (16 - n1 % 16) % 16 + (n2 + (16 - n2 % 16) % 16) + 8 + 8) (((((aad ++ z16 aad) ++ (cs ++ z16 cs)) ++ (lowb (BitVec.ofNat 64 n1) 8)) ++ (lowb (BitVec.ofNat 64 n2) 8)).map b8)) rfl (by first | rfl | (congr 1; simp; done) | (simp only [List.map_append]; rfl) | (rw [List.map_append]; rfl)) ?_
     refine D_past kr ?_
     refine D_one 6 _ rfl kr rfl (op_cn (fun w hw => rtag_f (List.take 32 (cblock key 0#32 nonce)) ((((aad ++ z16 aad) ++ (cs ++ z16 cs)) ++ (lowb (BitVec.ofNat 64 n1) 8)) ++ (lowb (BitVec.ofNat 64 n2) 8)) A45 (n1 + (16 - n1 % 16) % 16 + (n2 + (16 - n2 % 16) % 16) + 8 + 8) C46 w (hok_cons ((src_row 0 rfl) w hw) (hok_nil w)) sd (by first | assumption | omega | (simp; done) | (simp; omega)) sd) (enters_of Try.func19 kr rfl) rfl rfl rfl rfl rfl (fun t47 q48 => ?_))
     refine T_slot 41 _ (.agg ((atag key nonce aad cs).map b8).toArray) rfl (by rw [lens8_of aad cs n1 n2 h1 h2, atext_def, atag_def]) ?_
     refine D_past kr ?_
     refine D_one 7 _ rfl kr rfl (op_sto (n := 16) (vs := ((atag key nonce aad cs).map b8)) 6 rfl rfl kr (all8_one _) kr sd rfl rfl rfl rfl ?_)
     refine D_past kr ?_
     refine D_done kr ?_
     exact T_meet () trivial (sc rfl sn) [0, 3, 4, 5, 6, 7, 8, 9, 10] ⟨by decide, rfl⟩
    ·
     refine id (op_append (z := (b8 (0#8))) (size := 1) (bytes := 1) 1 rfl Try.underlying25 kr kr (by decide) (src_row 0 rfl) (all8_one _) sd sd rfl rfl rfl rfl rfl (fun A49 C50 => ?_))
     refine T_as 0 _ (.row (.slice A49 (n1 + (16 - n1 % 16) % 16 + (n2 + (16 - n2 % 16) % 16) + 8 + 8) C50) 5 1 (n1 + (16 - n1 % 16) % 16 + (n2 + (16 - n2 % 16) % 16) + 8 + 8) (((((aad ++ z16 aad) ++ (cs ++ z16 cs)) ++ (lowb (BitVec.ofNat 64 n1) 8)) ++ (lowb (BitVec.ofNat 64 n2) 8)).map b8)) rfl (by first | rfl | (congr 1; simp; done) | (simp only [List.map_append]; rfl) | (rw [List.map_append]; rfl)) ?_
     refine D_past kr ?_
     refine D_one 0 _ rfl kr rfl (op_ld (ld_agg (ds := ((List.take 32 (cblock key 0#32 nonce)).map b8)) 4 rfl agg_all Try.underlying22 rfl (fwz (n := 32) kr sd) rfl rfl) rfl rfl ?_)
     refine D_past kr ?_
     refine D_one 6 _ rfl kr rfl (op_cn (fun w hw => rtag_f (List.take 32 (cblock key 0#32 nonce)) ((((aad ++ z16 aad) ++ (cs ++ z16 cs)) ++ (lowb (BitVec.ofNat 64 n1) 8)) ++ (lowb (BitVec.ofNat 64 n2) 8)) A49 (n1 + (16 - n1 % 16) % 16 + (n2 + (16 - n2 % 16) % 16) + 8 + 8) C50 w (hok_cons ((src_row 0 rfl) w hw) (hok_nil w)) sd (by first | assumption | omega | (simp; done) | (simp; omega)) sd) (enters_of Try.func19 kr rfl) rfl rfl rfl rfl rfl (fun t51 q52 => ?_))
     refine T_slot 41 _ (.agg ((atag key nonce aad cs).map b8).toArray) rfl (by rw [lens8_of aad cs n1 n2 h1 h2, atext_def, atag_def]) ?_
     refine D_past kr ?_
     refine D_one 7 _ rfl kr rfl (op_sto (n := 16) (vs := ((atag key nonce aad cs).map b8)) 6 rfl rfl kr (all8_one _) kr sd rfl rfl rfl rfl ?_)
     refine D_past kr ?_
     refine D_done kr ?_
     exact T_meet () trivial (sc rfl sn) [0, 3, 4, 5, 6, 7, 8, 9, 10] ⟨by decide, rfl⟩
  ·
   rintro ⟨⟩ -
   refine T_re [(8, (.pointer (some ⟨g3, 0, none⟩)))] (sc rfl sn) ?_
   refine T_he [0, 1, 2, 3, 4, 5, 6, 7, 8] [.blk g3 27 ((atag key nonce aad cs).map b8), .row (.slice B21 8 d22) 5 1 8 ((lowb (BitVec.ofNat 64 n1) 8).map b8), .row (.slice B15 (n2 + (16 - n2 % 16) % 16) d16) 5 1 (n2 + (16 - n2 % 16) % 16) ((cs ++ z16 cs).map b8), .blk g7 22 ((List.take 32 (cblock key 0#32 nonce)).map b8), .blk g6 84 ((cblock key (0#32) nonce).map b8), .blk g2 38 (nonce.map b8), .blk g1 22 (key.map b8), .rd A1 1 n1 c1 (aad.map b8), .rd A2 1 n2 c2 (cs.map b8)] ⟨by decide, rfl⟩ ?_
   refine T_ret ?_
   exact T_fin () (by first | trivial | omega | (simp; done)) (resb 0 rfl rfl rfl Try.underlying27 rfl (fwz (n := 16) kr sd)) [] ⟨by decide, rfl⟩ rfl
set_option maxRecDepth 100000 in
set_option maxHeartbeats 4000000 in
theorem seal_f (key : List (BitVec 8)) (nonce : List (BitVec 8)) (aad : List (BitVec 8)) (cs : List (BitVec 8)) (A1 : Option Addr) (n1 : Nat) (c1 : Nat) (A2 : Option Addr) (n2 : Nat) (c2 : Nat) (w : World) (hO : HOK [.rd A1 1 n1 c1 (aad.map b8), .rd A2 1 n2 c2 (cs.map b8)] w) (hk : key.length = 32) (hn : nonce.length = 12) (h1 : aad.length = n1) (h2 : cs.length = n2) (h3 : n1 ≤ 65536) (h4 : n2 ≤ 65536) : Calls Try.prog 24 [(.agg (key.map b8).toArray), (.agg (nonce.map b8).toArray), (.slice A1 n1 c1), (.slice A2 n2 c2)].toArray w (Ret (T := Option Addr × Nat) [] w (fun ⟨B, d⟩ => True) (fun ⟨B, d⟩ => (.tuple [(.slice B (n2 + 16) d), (.int .i64 ((0 : Nat) : Int))].toArray)) (fun ⟨B, d⟩ => [.row (.slice B (n2 + 16) d) 5 1 (n2 + 16) ((aseal key nonce aad cs).map b8)])) := by
 have hcl := cxor_len key nonce 1#32 cs
 have hsl := aseal_len key nonce aad cs
 have htl := atag_len key nonce aad (cxor key nonce 1#32 cs)
 have hF : Wid Fence.wide := wid_wide
 refine enter (c := _) Try.func24 rfl [] [(.agg (key.map b8).toArray), (.agg (nonce.map b8).toArray), (.slice A1 n1 c1), (.slice A2 n2 c2)] [.rd A1 1 n1 c1 (aad.map b8), .rd A2 1 n2 c2 (cs.map b8)] (by rw [Try.ntmps24]; rfl) (own_rds hO rfl) ?_
 rw [Try.ntmps24]
 refine T_re [(0, (.agg (key.map b8).toArray)), (1, (.agg (nonce.map b8).toArray)), (2, (.slice A1 n1 c1)), (3, (.slice A2 n2 c2))] (sc rfl (sc rfl (sc rfl (sc rfl sn)))) ?_
 refine T_he [0, 1] [.rd A1 1 n1 c1 (aad.map b8), .rd A2 1 n2 c2 (cs.map b8)] ⟨by decide, rfl⟩ ?_
 refine Tsr hF rfl ?_
 refine L_op rfl (op_box (zs := (key.map b8)) rfl rfl rfl rfl rfl (fun g1 => ?_))
 refine L_op rfl (op_box (zs := (nonce.map b8)) rfl rfl rfl rfl rfl (fun g2 => ?_))
 refine la rfl rfl rfl rfl rfl ?_
 refine la rfl rfl rfl rfl rfl ?_
 refine L_nil ?_
 refine T_seq ?_
 refine Tsr hF rfl ?_
 refine lm rfl rfl rfl rfl rfl ?_
 refine lo rfl (pr_len_sl Try.underlying25 rfl rfl) rfl rfl ?_
 refine lo rfl (pr_cmp (bo := .gtr) (nc_lt (a := 65536) (b := n1)) rfl rfl rfl rfl) rfl rfl ?_
 refine lm rfl rfl rfl rfl rfl ?_
 refine T_slot 15 (.bool (decide (65536 < n1))) (.bool false) rfl (congrArg _ (by simp; omega)) ?_
 refine lm rfl rfl rfl rfl rfl ?_
 refine lo rfl (pr_len_sl Try.underlying25 rfl rfl) rfl rfl ?_
 refine lo rfl (pr_cmp (bo := .gtr) (nc_lt (a := 65536) (b := n2)) rfl rfl rfl rfl) rfl rfl ?_
 refine lo rfl (pr_pick_f rfl rfl rfl) rfl rfl ?_
 refine L_nil ?_
 refine T_cond_no (t := decide (65536 < n2)) rfl (by simp; omega) ?_
 refine T_skip ?_
 refine Tsr hF rfl ?_
 refine lq rfl (ld_agg (ds := (key.map b8)) 1 rfl agg_all Try.underlying22 rfl (fwz (n := 32) kr sd) rfl rfl) rfl rfl ?_
 refine lq rfl (ld_agg (ds := (nonce.map b8)) 0 rfl agg_all Try.underlying38 rfl (fwz (n := 12) kr sd) rfl rfl) rfl rfl ?_
 refine lm rfl rfl rfl rfl rfl ?_
 refine L_op rfl (op_cn (fun w hw => xor_f key nonce (1#32) cs A2 n2 c2 w (hok_cons ((src_rd 3 rfl) w hw) (hok_nil w)) (by first | assumption | exact sd) (by first | assumption | exact sd) (by first | assumption | omega | (simp; done) | (simp; omega)) sd) (enters_of Try.func43 kr rfl) rfl rfl rfl rfl rfl (fun t4 q5 => ?_))
 obtain ⟨B6, d7⟩ := t4
 refine la rfl rfl rfl rfl rfl ?_
 refine L_nil ?_
 refine Tsr hF rfl ?_
 refine lq rfl (ld_agg (ds := (key.map b8)) 2 rfl agg_all Try.underlying22 rfl (fwz (n := 32) kr sd) rfl rfl) rfl rfl ?_
 refine lq rfl (ld_agg (ds := (nonce.map b8)) 1 rfl agg_all Try.underlying38 rfl (fwz (n := 12) kr sd) rfl rfl) rfl rfl ?_
 refine lm rfl rfl rfl rfl rfl ?_
 refine lm rfl rfl rfl rfl rfl ?_
 refine L_op rfl (op_cn (fun w hw => atag_f key nonce aad (cxor key nonce (1#32) cs) A1 n1 c1 B6 n2 d7 w (hok_cons ((src_rd 3 rfl) w hw) (hok_cons ((src_row 0 rfl) w hw) (hok_nil w))) (by first | assumption | exact sd) (by first | assumption | exact sd) (by first | assumption | exact sd) (by first | assumption | exact sd) sd sd) (enters_of Try.func44 kr rfl) rfl rfl rfl rfl rfl (fun t8 q9 => ?_))
 refine L_op rfl (op_alloc (z := .agg ((List.replicate 16 0#8).map b8).toArray) (zs := ((List.replicate 16 0#8).map b8)) kr rfl rfl rfl rfl (fun g10 => ?_))
 refine L_op rfl (op_sto (n := 16) (vs := ((atag key nonce aad (cxor key nonce (1#32) cs)).map b8)) 0 rfl rfl kr (all8_one _) kr sd rfl rfl rfl rfl ?_)
 refine L_nil ?_
 refine Tsr hF rfl ?_
 refine lm rfl rfl rfl rfl rfl ?_
 refine lo rfl (pr_sla (l := 0) (u := 16) (m := 0) sd sd sd rfl Try.underlying27 (z := 1) kr rfl rfl rfl rfl) rfl rfl ?_
 refine L_op rfl (op_append (z := (b8 (0#8))) (size := 1) (bytes := 1) 1 rfl Try.underlying25 kr kr (by decide) (src_full (z := 1) 0 rfl sd sd sd) (all8_one _) sd sd rfl rfl rfl rfl rfl (fun A11 C12 => ?_))
 refine T_as 0 _ (.row (.slice A11 (n2 + 16) C12) 5 1 (n2 + 16) (((cxor key nonce (1#32) cs) ++ (atag key nonce aad (cxor key nonce (1#32) cs))).map b8)) rfl (by first | rfl | (congr 1; simp; done) | (simp only [List.map_append]; rfl) | (rw [List.map_append]; rfl)) ?_
 refine la rfl rfl rfl rfl rfl ?_
 refine la rfl rfl rfl rfl rfl ?_
 refine L_nil ?_
 refine T_ret ?_
 refine T_as 0 _ (.row (.slice A11 (n2 + 16) C12) 5 1 (n2 + 16) ((aseal key nonce aad cs).map b8)) rfl (by rw [aseal_def]) ?_
 exact T_fin (A11, C12) (by first | trivial | omega | (simp; done)) (res2 rfl rfl rfl) [0] ⟨by decide, rfl⟩ rfl
set_option maxHeartbeats 4000000 in
theorem seal_la_f (key : List (BitVec 8)) (nonce : List (BitVec 8)) (aad : List (BitVec 8)) (cs : List (BitVec 8)) (A1 : Option Addr) (n1 : Nat) (c1 : Nat) (A2 : Option Addr) (n2 : Nat) (c2 : Nat) (w : World) (hO : HOK [.rd A1 1 n1 c1 (aad.map b8), .rd A2 1 n2 c2 (cs.map b8)] w) (hk : key.length = 32) (hn : nonce.length = 12) (h1 : aad.length = n1) (h2 : cs.length = n2) (h3 : 65536 < n1) : Calls Try.prog 24 [(.agg (key.map b8).toArray), (.agg (nonce.map b8).toArray), (.slice A1 n1 c1), (.slice A2 n2 c2)].toArray w (Ret (T := Unit) [] w (fun _ => True) (fun _ => (.tuple [(.slice none 0 0), (.int .i64 ((5 : Nat) : Int))].toArray)) (fun _ => [])) := by
 have hF : Wid Fence.wide := wid_wide
 refine enter (c := _) Try.func24 rfl [] [(.agg (key.map b8).toArray), (.agg (nonce.map b8).toArray), (.slice A1 n1 c1), (.slice A2 n2 c2)] [.rd A1 1 n1 c1 (aad.map b8), .rd A2 1 n2 c2 (cs.map b8)] (by rw [Try.ntmps24]; rfl) (own_rds hO rfl) ?_
 rw [Try.ntmps24]
 refine T_re [(0, (.agg (key.map b8).toArray)), (1, (.agg (nonce.map b8).toArray)), (2, (.slice A1 n1 c1)), (3, (.slice A2 n2 c2))] (sc rfl (sc rfl (sc rfl (sc rfl sn)))) ?_
 refine T_he [0, 1] [.rd A1 1 n1 c1 (aad.map b8), .rd A2 1 n2 c2 (cs.map b8)] ⟨by decide, rfl⟩ ?_
 refine Tsr hF rfl ?_
 refine L_op rfl (op_box (zs := (key.map b8)) rfl rfl rfl rfl rfl (fun g1 => ?_))
 refine L_op rfl (op_box (zs := (nonce.map b8)) rfl rfl rfl rfl rfl (fun g2 => ?_))
 refine la rfl rfl rfl rfl rfl ?_
 refine la rfl rfl rfl rfl rfl ?_
 refine L_nil ?_
 refine T_seq ?_
 refine Tsr hF rfl ?_
 refine lm rfl rfl rfl rfl rfl ?_
 refine lo rfl (pr_len_sl Try.underlying25 rfl rfl) rfl rfl ?_
 refine lo rfl (pr_cmp (bo := .gtr) (nc_lt (a := 65536) (b := n1)) rfl rfl rfl rfl) rfl rfl ?_
 refine lm rfl rfl rfl rfl rfl ?_
 refine T_slot 15 (.bool (decide (65536 < n1))) (.bool true) rfl (congrArg _ (by simp; omega)) ?_
 refine L_skip rfl rfl rfl ?_
 refine L_skip rfl rfl rfl ?_
 refine L_skip rfl rfl rfl ?_
 refine lo rfl (pr_pick_t rfl rfl rfl) rfl rfl ?_
 refine L_nil ?_
 refine T_cond_t rfl ?_
 refine Tsr hF rfl ?_
 refine la rfl rfl rfl rfl rfl ?_
 refine la rfl rfl rfl rfl rfl ?_
 refine L_nil ?_
 refine T_ret ?_
 exact T_fin () (by first | trivial | omega | (simp; done)) (res2 rfl rfl rfl) [] ⟨by decide, rfl⟩ rfl
set_option maxHeartbeats 4000000 in
theorem seal_lp_f (key : List (BitVec 8)) (nonce : List (BitVec 8)) (aad : List (BitVec 8)) (cs : List (BitVec 8)) (A1 : Option Addr) (n1 : Nat) (c1 : Nat) (A2 : Option Addr) (n2 : Nat) (c2 : Nat) (w : World) (hO : HOK [.rd A1 1 n1 c1 (aad.map b8), .rd A2 1 n2 c2 (cs.map b8)] w) (hk : key.length = 32) (hn : nonce.length = 12) (h1 : aad.length = n1) (h2 : cs.length = n2) (h3 : n1 ≤ 65536) (h4 : 65536 < n2) : Calls Try.prog 24 [(.agg (key.map b8).toArray), (.agg (nonce.map b8).toArray), (.slice A1 n1 c1), (.slice A2 n2 c2)].toArray w (Ret (T := Unit) [] w (fun _ => True) (fun _ => (.tuple [(.slice none 0 0), (.int .i64 ((5 : Nat) : Int))].toArray)) (fun _ => [])) := by
 have hF : Wid Fence.wide := wid_wide
 refine enter (c := _) Try.func24 rfl [] [(.agg (key.map b8).toArray), (.agg (nonce.map b8).toArray), (.slice A1 n1 c1), (.slice A2 n2 c2)] [.rd A1 1 n1 c1 (aad.map b8), .rd A2 1 n2 c2 (cs.map b8)] (by rw [Try.ntmps24]; rfl) (own_rds hO rfl) ?_
 rw [Try.ntmps24]
 refine T_re [(0, (.agg (key.map b8).toArray)), (1, (.agg (nonce.map b8).toArray)), (2, (.slice A1 n1 c1)), (3, (.slice A2 n2 c2))] (sc rfl (sc rfl (sc rfl (sc rfl sn)))) ?_
 refine T_he [0, 1] [.rd A1 1 n1 c1 (aad.map b8), .rd A2 1 n2 c2 (cs.map b8)] ⟨by decide, rfl⟩ ?_
 refine Tsr hF rfl ?_
 refine L_op rfl (op_box (zs := (key.map b8)) rfl rfl rfl rfl rfl (fun g1 => ?_))
 refine L_op rfl (op_box (zs := (nonce.map b8)) rfl rfl rfl rfl rfl (fun g2 => ?_))
 refine la rfl rfl rfl rfl rfl ?_
 refine la rfl rfl rfl rfl rfl ?_
 refine L_nil ?_
 refine T_seq ?_
 refine Tsr hF rfl ?_
 refine lm rfl rfl rfl rfl rfl ?_
 refine lo rfl (pr_len_sl Try.underlying25 rfl rfl) rfl rfl ?_
 refine lo rfl (pr_cmp (bo := .gtr) (nc_lt (a := 65536) (b := n1)) rfl rfl rfl rfl) rfl rfl ?_
 refine lm rfl rfl rfl rfl rfl ?_
 refine T_slot 15 (.bool (decide (65536 < n1))) (.bool false) rfl (congrArg _ (by simp; omega)) ?_
 refine lm rfl rfl rfl rfl rfl ?_
 refine lo rfl (pr_len_sl Try.underlying25 rfl rfl) rfl rfl ?_
 refine lo rfl (pr_cmp (bo := .gtr) (nc_lt (a := 65536) (b := n2)) rfl rfl rfl rfl) rfl rfl ?_
 refine lo rfl (pr_pick_f rfl rfl rfl) rfl rfl ?_
 refine L_nil ?_
 refine T_cond_yes (t := decide (65536 < n2)) rfl (by simp; omega) ?_
 refine Tsr hF rfl ?_
 refine la rfl rfl rfl rfl rfl ?_
 refine la rfl rfl rfl rfl rfl ?_
 refine L_nil ?_
 refine T_ret ?_
 exact T_fin () (by first | trivial | omega | (simp; done)) (res2 rfl rfl rfl) [] ⟨by decide, rfl⟩ rfl
set_option maxRecDepth 100000 in
set_option maxHeartbeats 4000000 in
theorem rseal_f (key : List (BitVec 8)) (nonce : List (BitVec 8)) (aad : List (BitVec 8)) (cs : List (BitVec 8)) (A1 : Option Addr) (n1 : Nat) (c1 : Nat) (A2 : Option Addr) (n2 : Nat) (c2 : Nat) (w : World) (hO : HOK [.rd A1 1 n1 c1 (aad.map b8), .rd A2 1 n2 c2 (cs.map b8)] w) (hk : key.length = 32) (hn : nonce.length = 12) (h1 : aad.length = n1) (h2 : cs.length = n2) (h3 : n1 ≤ 65536) (h4 : n2 ≤ 65536) : Calls Try.prog 25 [(.agg (key.map b8).toArray), (.agg (nonce.map b8).toArray), (.slice A1 n1 c1), (.slice A2 n2 c2)].toArray w (Ret (T := Option Addr × Nat) [] w (fun ⟨B, d⟩ => True) (fun ⟨B, d⟩ => (.tuple [(.slice B (n2 + 16) d), (.int .i64 ((0 : Nat) : Int))].toArray)) (fun ⟨B, d⟩ => [.row (.slice B (n2 + 16) d) 5 1 (n2 + 16) ((aseal key nonce aad cs).map b8)])) := by
 have hcl := cxor_len key nonce 1#32 cs
 have hsl := aseal_len key nonce aad cs
 have htl := atag_len key nonce aad (cxor key nonce 1#32 cs)
 have hF : Wid Fence.wide := wid_wide
 refine enter (c := _) Try.func25 rfl [] [(.agg (key.map b8).toArray), (.agg (nonce.map b8).toArray), (.slice A1 n1 c1), (.slice A2 n2 c2)] [.rd A1 1 n1 c1 (aad.map b8), .rd A2 1 n2 c2 (cs.map b8)] (by rw [Try.ntmps25]; rfl) (own_rds hO rfl) ?_
 rw [Try.ntmps25]
 refine T_re [(0, (.agg (key.map b8).toArray)), (1, (.agg (nonce.map b8).toArray)), (2, (.slice A1 n1 c1)), (3, (.slice A2 n2 c2))] (sc rfl (sc rfl (sc rfl (sc rfl sn)))) ?_
 refine T_he [0, 1] [.rd A1 1 n1 c1 (aad.map b8), .rd A2 1 n2 c2 (cs.map b8)] ⟨by decide, rfl⟩ ?_
 refine Tsr hF rfl ?_
 refine L_op rfl (op_box (zs := (key.map b8)) rfl rfl rfl rfl rfl (fun g1 => ?_))
 refine L_op rfl (op_box (zs := (nonce.map b8)) rfl rfl rfl rfl rfl (fun g2 => ?_))
 refine la rfl rfl rfl rfl rfl ?_
 refine la rfl rfl rfl rfl rfl ?_
 refine L_nil ?_
 refine T_seq ?_
 refine Tsr hF rfl ?_
 refine lm rfl rfl rfl rfl rfl ?_
 refine lo rfl (pr_len_sl Try.underlying25 rfl rfl) rfl rfl ?_
 refine lo rfl (pr_cmp (bo := .gtr) (nc_lt (a := 65536) (b := n1)) rfl rfl rfl rfl) rfl rfl ?_
 refine lm rfl rfl rfl rfl rfl ?_
 refine T_slot 15 (.bool (decide (65536 < n1))) (.bool false) rfl (congrArg _ (by simp; omega)) ?_
 refine lm rfl rfl rfl rfl rfl ?_
 refine lo rfl (pr_len_sl Try.underlying25 rfl rfl) rfl rfl ?_
 refine lo rfl (pr_cmp (bo := .gtr) (nc_lt (a := 65536) (b := n2)) rfl rfl rfl rfl) rfl rfl ?_
 refine lo rfl (pr_pick_f rfl rfl rfl) rfl rfl ?_
 refine L_nil ?_
 refine T_cond_no (t := decide (65536 < n2)) rfl (by simp; omega) ?_
 refine T_skip ?_
 refine Tsr hF rfl ?_
 refine lq rfl (ld_agg (ds := (key.map b8)) 1 rfl agg_all Try.underlying22 rfl (fwz (n := 32) kr sd) rfl rfl) rfl rfl ?_
 refine lq rfl (ld_agg (ds := (nonce.map b8)) 0 rfl agg_all Try.underlying38 rfl (fwz (n := 12) kr sd) rfl rfl) rfl rfl ?_
 refine lm rfl rfl rfl rfl rfl ?_
 refine L_op rfl (op_cn (fun w hw => rxor_f key nonce (1#32) cs A2 n2 c2 w (hok_cons ((src_rd 3 rfl) w hw) (hok_nil w)) (by first | assumption | exact sd) (by first | assumption | exact sd) (by first | assumption | omega | (simp; done) | (simp; omega)) sd) (enters_of Try.func45 kr rfl) rfl rfl rfl rfl rfl (fun t4 q5 => ?_))
 obtain ⟨B6, d7⟩ := t4
 refine la rfl rfl rfl rfl rfl ?_
 refine L_nil ?_
 refine Tsr hF rfl ?_
 refine lq rfl (ld_agg (ds := (key.map b8)) 2 rfl agg_all Try.underlying22 rfl (fwz (n := 32) kr sd) rfl rfl) rfl rfl ?_
 refine lq rfl (ld_agg (ds := (nonce.map b8)) 1 rfl agg_all Try.underlying38 rfl (fwz (n := 12) kr sd) rfl rfl) rfl rfl ?_
 refine lm rfl rfl rfl rfl rfl ?_
 refine lm rfl rfl rfl rfl rfl ?_
 refine L_op rfl (op_cn (fun w hw => ratag_f key nonce aad (cxor key nonce (1#32) cs) A1 n1 c1 B6 n2 d7 w (hok_cons ((src_rd 3 rfl) w hw) (hok_cons ((src_row 0 rfl) w hw) (hok_nil w))) (by first | assumption | exact sd) (by first | assumption | exact sd) (by first | assumption | exact sd) (by first | assumption | exact sd) sd sd) (enters_of Try.func46 kr rfl) rfl rfl rfl rfl rfl (fun t8 q9 => ?_))
 refine L_op rfl (op_alloc (z := .agg ((List.replicate 16 0#8).map b8).toArray) (zs := ((List.replicate 16 0#8).map b8)) kr rfl rfl rfl rfl (fun g10 => ?_))
 refine L_op rfl (op_sto (n := 16) (vs := ((atag key nonce aad (cxor key nonce (1#32) cs)).map b8)) 0 rfl rfl kr (all8_one _) kr sd rfl rfl rfl rfl ?_)
 refine L_nil ?_
 refine Tsr hF rfl ?_
 refine lm rfl rfl rfl rfl rfl ?_
 refine lo rfl (pr_sla (l := 0) (u := 16) (m := 0) sd sd sd rfl Try.underlying27 (z := 1) kr rfl rfl rfl rfl) rfl rfl ?_
 refine L_op rfl (op_append (z := (b8 (0#8))) (size := 1) (bytes := 1) 1 rfl Try.underlying25 kr kr (by decide) (src_full (z := 1) 0 rfl sd sd sd) (all8_one _) sd sd rfl rfl rfl rfl rfl (fun A11 C12 => ?_))
 refine T_as 0 _ (.row (.slice A11 (n2 + 16) C12) 5 1 (n2 + 16) (((cxor key nonce (1#32) cs) ++ (atag key nonce aad (cxor key nonce (1#32) cs))).map b8)) rfl (by first | rfl | (congr 1; simp; done) | (simp only [List.map_append]; rfl) | (rw [List.map_append]; rfl)) ?_
 refine la rfl rfl rfl rfl rfl ?_
 refine la rfl rfl rfl rfl rfl ?_
 refine L_nil ?_
 refine T_ret ?_
 refine T_as 0 _ (.row (.slice A11 (n2 + 16) C12) 5 1 (n2 + 16) ((aseal key nonce aad cs).map b8)) rfl (by rw [aseal_def]) ?_
 exact T_fin (A11, C12) (by first | trivial | omega | (simp; done)) (res2 rfl rfl rfl) [0] ⟨by decide, rfl⟩ rfl
set_option maxHeartbeats 4000000 in
theorem rseal_la_f (key : List (BitVec 8)) (nonce : List (BitVec 8)) (aad : List (BitVec 8)) (cs : List (BitVec 8)) (A1 : Option Addr) (n1 : Nat) (c1 : Nat) (A2 : Option Addr) (n2 : Nat) (c2 : Nat) (w : World) (hO : HOK [.rd A1 1 n1 c1 (aad.map b8), .rd A2 1 n2 c2 (cs.map b8)] w) (hk : key.length = 32) (hn : nonce.length = 12) (h1 : aad.length = n1) (h2 : cs.length = n2) (h3 : 65536 < n1) : Calls Try.prog 25 [(.agg (key.map b8).toArray), (.agg (nonce.map b8).toArray), (.slice A1 n1 c1), (.slice A2 n2 c2)].toArray w (Ret (T := Unit) [] w (fun _ => True) (fun _ => (.tuple [(.slice none 0 0), (.int .i64 ((5 : Nat) : Int))].toArray)) (fun _ => [])) := by
 have hF : Wid Fence.wide := wid_wide
 refine enter (c := _) Try.func25 rfl [] [(.agg (key.map b8).toArray), (.agg (nonce.map b8).toArray), (.slice A1 n1 c1), (.slice A2 n2 c2)] [.rd A1 1 n1 c1 (aad.map b8), .rd A2 1 n2 c2 (cs.map b8)] (by rw [Try.ntmps25]; rfl) (own_rds hO rfl) ?_
 rw [Try.ntmps25]
 refine T_re [(0, (.agg (key.map b8).toArray)), (1, (.agg (nonce.map b8).toArray)), (2, (.slice A1 n1 c1)), (3, (.slice A2 n2 c2))] (sc rfl (sc rfl (sc rfl (sc rfl sn)))) ?_
 refine T_he [0, 1] [.rd A1 1 n1 c1 (aad.map b8), .rd A2 1 n2 c2 (cs.map b8)] ⟨by decide, rfl⟩ ?_
 refine Tsr hF rfl ?_
 refine L_op rfl (op_box (zs := (key.map b8)) rfl rfl rfl rfl rfl (fun g1 => ?_))
 refine L_op rfl (op_box (zs := (nonce.map b8)) rfl rfl rfl rfl rfl (fun g2 => ?_))
 refine la rfl rfl rfl rfl rfl ?_
 refine la rfl rfl rfl rfl rfl ?_
 refine L_nil ?_
 refine T_seq ?_
 refine Tsr hF rfl ?_
 refine lm rfl rfl rfl rfl rfl ?_
 refine lo rfl (pr_len_sl Try.underlying25 rfl rfl) rfl rfl ?_
 refine lo rfl (pr_cmp (bo := .gtr) (nc_lt (a := 65536) (b := n1)) rfl rfl rfl rfl) rfl rfl ?_
 refine lm rfl rfl rfl rfl rfl ?_
 refine T_slot 15 (.bool (decide (65536 < n1))) (.bool true) rfl (congrArg _ (by simp; omega)) ?_
 refine L_skip rfl rfl rfl ?_
 refine L_skip rfl rfl rfl ?_
 refine L_skip rfl rfl rfl ?_
 refine lo rfl (pr_pick_t rfl rfl rfl) rfl rfl ?_
 refine L_nil ?_
 refine T_cond_t rfl ?_
 refine Tsr hF rfl ?_
 refine la rfl rfl rfl rfl rfl ?_
 refine la rfl rfl rfl rfl rfl ?_
 refine L_nil ?_
 refine T_ret ?_
 exact T_fin () (by first | trivial | omega | (simp; done)) (res2 rfl rfl rfl) [] ⟨by decide, rfl⟩ rfl
set_option maxHeartbeats 4000000 in
theorem rseal_lp_f (key : List (BitVec 8)) (nonce : List (BitVec 8)) (aad : List (BitVec 8)) (cs : List (BitVec 8)) (A1 : Option Addr) (n1 : Nat) (c1 : Nat) (A2 : Option Addr) (n2 : Nat) (c2 : Nat) (w : World) (hO : HOK [.rd A1 1 n1 c1 (aad.map b8), .rd A2 1 n2 c2 (cs.map b8)] w) (hk : key.length = 32) (hn : nonce.length = 12) (h1 : aad.length = n1) (h2 : cs.length = n2) (h3 : n1 ≤ 65536) (h4 : 65536 < n2) : Calls Try.prog 25 [(.agg (key.map b8).toArray), (.agg (nonce.map b8).toArray), (.slice A1 n1 c1), (.slice A2 n2 c2)].toArray w (Ret (T := Unit) [] w (fun _ => True) (fun _ => (.tuple [(.slice none 0 0), (.int .i64 ((5 : Nat) : Int))].toArray)) (fun _ => [])) := by
 have hF : Wid Fence.wide := wid_wide
 refine enter (c := _) Try.func25 rfl [] [(.agg (key.map b8).toArray), (.agg (nonce.map b8).toArray), (.slice A1 n1 c1), (.slice A2 n2 c2)] [.rd A1 1 n1 c1 (aad.map b8), .rd A2 1 n2 c2 (cs.map b8)] (by rw [Try.ntmps25]; rfl) (own_rds hO rfl) ?_
 rw [Try.ntmps25]
 refine T_re [(0, (.agg (key.map b8).toArray)), (1, (.agg (nonce.map b8).toArray)), (2, (.slice A1 n1 c1)), (3, (.slice A2 n2 c2))] (sc rfl (sc rfl (sc rfl (sc rfl sn)))) ?_
 refine T_he [0, 1] [.rd A1 1 n1 c1 (aad.map b8), .rd A2 1 n2 c2 (cs.map b8)] ⟨by decide, rfl⟩ ?_
 refine Tsr hF rfl ?_
 refine L_op rfl (op_box (zs := (key.map b8)) rfl rfl rfl rfl rfl (fun g1 => ?_))
 refine L_op rfl (op_box (zs := (nonce.map b8)) rfl rfl rfl rfl rfl (fun g2 => ?_))
 refine la rfl rfl rfl rfl rfl ?_
 refine la rfl rfl rfl rfl rfl ?_
 refine L_nil ?_
 refine T_seq ?_
 refine Tsr hF rfl ?_
 refine lm rfl rfl rfl rfl rfl ?_
 refine lo rfl (pr_len_sl Try.underlying25 rfl rfl) rfl rfl ?_
 refine lo rfl (pr_cmp (bo := .gtr) (nc_lt (a := 65536) (b := n1)) rfl rfl rfl rfl) rfl rfl ?_
 refine lm rfl rfl rfl rfl rfl ?_
 refine T_slot 15 (.bool (decide (65536 < n1))) (.bool false) rfl (congrArg _ (by simp; omega)) ?_
 refine lm rfl rfl rfl rfl rfl ?_
 refine lo rfl (pr_len_sl Try.underlying25 rfl rfl) rfl rfl ?_
 refine lo rfl (pr_cmp (bo := .gtr) (nc_lt (a := 65536) (b := n2)) rfl rfl rfl rfl) rfl rfl ?_
 refine lo rfl (pr_pick_f rfl rfl rfl) rfl rfl ?_
 refine L_nil ?_
 refine T_cond_yes (t := decide (65536 < n2)) rfl (by simp; omega) ?_
 refine Tsr hF rfl ?_
 refine la rfl rfl rfl rfl rfl ?_
 refine la rfl rfl rfl rfl rfl ?_
 refine L_nil ?_
 refine T_ret ?_
 exact T_fin () (by first | trivial | omega | (simp; done)) (res2 rfl rfl rfl) [] ⟨by decide, rfl⟩ rfl
end Go.Proofs.Ytemjinkdfjoicaa
