/- Walks by facts, part 5: what the functions that the law reaches answer. No conditions but lengths. -/
import Derived.Test.YtlplpmkdebemnaaGreatYBlockBack4
import Derived.Test.YtlplpmkdebemnaaGreatProg
set_option linter.unusedVariables false
set_option linter.unusedSimpArgs false
set_option linter.unnecessarySimpa false
namespace Go.Proofs.YtlplpmkdebemnaaGreat
set_option maxRecDepth 100000
open Go.RowKit Bv Fw
theorem pad_bits (n k : Nat) (hk : k < 8) : highb (BitVec.ofNat 64 n * 8#64) 8 (k + 1) = highb (BitVec.ofNat 64 n * 8#64) 8 k ++ [((BitVec.ofNat 64 n * 8#64) >>> (8 * (7 - k))).setWidth 8] := by
  rw [highb]
set_option maxHeartbeats 4000000 in
theorem rpad_f (n : Nat) (w : World) (hO : HOK [] w) (hn : n ≤ 1100000000000) : Calls Tryz.prog 104 [(.int .i64 ((n : Nat) : Int))].toArray w (Ret (T := Option Addr × Nat) [] w (fun ⟨B, d⟩ => True) (fun ⟨B, d⟩ => (.slice B (plen n) d)) (fun ⟨B, d⟩ => [.row (.slice B (plen n) d) 5 1 (plen n) ((padb n).map b8)])) := by
 refine enter (c := _) Tryz.func104 rfl [] _ [] (by rw [Tryz.ntmps104]; rfl) (own_rds hO rfl) ?_
 rw [Tryz.ntmps104]
 refine lE [(0, (.int .i64 ((n : Nat) : Int)))] ?_
 refine lH [] [] ?_
 refine lT ?_
 refine lS ?_
 refine lN ?_
 refine lM ?_
 refine lO (pr_as (pr_max rfl rfl rfl) (nmax (k := .i64) (a := 0) (b := n))) ?_
 refine T_slot 7 (.int .i64 ((max 0 n : Nat) : Int)) (.int .i64 ((n : Nat) : Int)) rfl (by simp) ?_
 refine lS ?_
 refine lN ?_
 refine L_op rfl (op_bslice (e := 5) (zs := [(b8 (128#8))]) (qs := [(0, (b8 (128#8)))]) (fun _ => by kernel_rfl) rfl rfl rfl rfl (fun g1 => ?_))
 refine lS ?_
 refine L_nil ?_
 refine T_seq ?_
 refine T_block ?_
 refine T_slot 3 (.slice (some ⟨g1, 0, none⟩) 1 1) (.slice (some ⟨g1, 0, none⟩) (1 + 0) 1) rfl (by rfl) ?_
 refine T_rowb 0 (zs := ((0x80#8 :: List.replicate 0 0#8).map b8)) 1 (1 + 0) 1 rfl sd sd rfl (rfl) ?_
 refine T_loop (T := Nat × Option Addr × Nat) (fun ⟨k, A1, c1⟩ => k ≤ (119 - n % 64) % 64) (fun ⟨k, A1, c1⟩ => [(0, (.int .i64 ((n : Nat) : Int))), (3, (.slice A1 (1 + k) c1))]) (fun ⟨k, A1, c1⟩ => [.row (.slice A1 (1 + k) c1) 5 1 (1 + k) ((0x80#8 :: List.replicate k 0#8).map b8)]) (fun ⟨k, A1, c1⟩ => (119 - n % 64) % 64 - k) (0, some ⟨g1, 0, none⟩, 1) pN (sc rfl (sc rfl sn)) [0] ⟨by decide, rfl⟩ ?_
 rintro ⟨k, A1, c1⟩ hp
 have hp : k ≤ (119 - n % 64) % 64 := hp
 refine lE [(0, (.int .i64 ((n : Nat) : Int))), (3, (.slice A1 (1 + k) c1))] ?_
 refine lH [0] [.row (.slice A1 (1 + k) c1) 5 1 (1 + k) ((0x80#8 :: List.replicate k 0#8).map b8)] ?_
 refine T_seq ?_
 refine lT ?_
 refine lM ?_
 refine lM ?_
 refine lO (pr_len_sl Tryz.underlying27 rfl rfl) ?_
 refine lO (pr_add (na_i64 (a := n) (b := 1 + k) sd) rfl rfl rfl) ?_
 refine lO (pr_rem (a := n + (1 + k)) (b := 64) sd rfl rfl rfl) ?_
 refine lO (pr_cmp (bo := .neq) (nc_ne (a := (n + (1 + k)) % 64) (b := 56)) rfl rfl rfl rfl) ?_
 refine L_nil ?_
 refine T_cond ((n + (1 + k)) % 64 != 56) rfl (fun hc_2 => ?_) (fun hc_2 => ?_)
 ·have hc_2 : ¬ (n + (1 + k)) % 64 = 56 := by simpa using hc_2
  refine T_skip ?_
  refine T_block ?_
  refine lR ?_
  refine lM ?_
  refine L_op rfl (op_bslice (e := 5) (zs := [(b8 (0#8))]) (qs := [(0, (b8 (0#8)))]) (fun _ => by kernel_rfl) rfl rfl rfl rfl (fun g3 => ?_))
  refine L_op rfl (op_append (z := (b8 (0#8))) (size := 1) (bytes := 1) 1 rfl Tryz.underlying27 kr kr (by decide) (src_full (z := 1) 0 rfl rfl sd sd) (by simp [Value.oneCell']) sd sd rfl rfl rfl rfl rfl (fun A4 C5 => ?_))
  refine T_as 0 _ (.row (.slice A4 (1 + k + 1) C5) 5 1 (1 + k + 1) (((0x80#8 :: List.replicate k 0#8) ++ [0#8]).map b8)) rfl (by congr 1; simp; done) ?_
  refine lS ?_
  refine L_nil ?_
  refine T_slot 3 (.slice A4 (1 + k + 1) C5) (.slice A4 (1 + (k + 1)) C5) rfl (by congr 1) ?_
  refine T_as 0 _ (.row (.slice A4 (1 + (k + 1)) C5) 5 1 (1 + (k + 1)) ((0x80#8 :: List.replicate (k + 1) 0#8).map b8)) rfl (by simp [List.replicate_succ', Nat.add_assoc]) ?_
  exact T_again (k + 1, A4, C5) pN pN (sc rfl (sc rfl sn)) [0] ⟨by decide, rfl⟩
 have hc_2 : (n + (1 + k)) % 64 = 56 := by simpa using hc_2
 refine T_exit rfl ?_
 obtain rfl : ((119 - n % 64) % 64) = k := by omega
 refine lT ?_
 refine lM ?_
 refine lO (pr_cv (nw64 n) Tryz.underlying3 Tryz.underlying23 rfl rfl) ?_
 refine lO (pr_mul (mul64 _ (8#64)) rfl rfl rfl) ?_
 refine lS ?_
 refine L_nil ?_
 refine T_seq ?_
 refine lT ?_
 refine lS ?_
 refine L_nil ?_
 refine T_block ?_
 refine T_slot 3 (.slice A1 (1 + ((119 - n % 64) % 64)) c1) (.slice A1 (1 + (119 - n % 64) % 64 + 0) c1) rfl (by congr 1) ?_
 refine T_slot 5 (.int .i64 ((7 : Nat) : Int)) (.int .i64 (7 - (0 : Int))) rfl (by congr 1) ?_
 refine T_as 0 _ (.row (.slice A1 (1 + (119 - n % 64) % 64 + 0) c1) 5 1 (1 + (119 - n % 64) % 64 + 0) ((0x80#8 :: (List.replicate ((119 - n % 64) % 64) 0#8 ++ highb (BitVec.ofNat 64 n * 8#64) 8 0)).map b8)) rfl (by simp [highb]) ?_
 refine T_loop (T := Nat × Option Addr × Nat) (fun ⟨k, A2, c2⟩ => k ≤ 8) (fun ⟨k, A2, c2⟩ => [(3, (.slice A2 (1 + (119 - n % 64) % 64 + k) c2)), (4, (b64 ((BitVec.ofNat 64 n) * 8#64))), (5, (.int .i64 (7 - (k : Int))))]) (fun ⟨k, A2, c2⟩ => [.row (.slice A2 (1 + (119 - n % 64) % 64 + k) c2) 5 1 (1 + (119 - n % 64) % 64 + k) ((0x80#8 :: (List.replicate ((119 - n % 64) % 64) 0#8 ++ highb (BitVec.ofNat 64 n * 8#64) 8 k)).map b8)]) (fun ⟨k, A2, c2⟩ => 8 - k) (0, A1, c1) pN (sc rfl (sc rfl (sc rfl sn))) [0] ⟨by decide, rfl⟩ ?_
 rintro ⟨k, A2, c2⟩ hp
 have hp : k ≤ 8 := hp
 refine lE [(3, (.slice A2 (1 + (119 - n % 64) % 64 + k) c2)), (4, (b64 ((BitVec.ofNat 64 n) * 8#64))), (5, (.int .i64 (7 - (k : Int))))] ?_
 refine lH [0] [.row (.slice A2 (1 + (119 - n % 64) % 64 + k) c2) 5 1 (1 + (119 - n % 64) % 64 + k) ((0x80#8 :: (List.replicate ((119 - n % 64) % 64) 0#8 ++ highb (BitVec.ofNat 64 n * 8#64) 8 k)).map b8)] ?_
 refine T_seq ?_
 refine lT ?_
 refine lM ?_
 refine lO (pr_cmp (bo := .geq) (k := .i64) (a := (7 - (k : Int))) (b := ((0 : Nat) : Int)) (c := decide (((0 : Nat) : Int) ≤ (7 - (k : Int)))) rfl rfl rfl rfl rfl) ?_
 refine L_nil ?_
 refine T_cond (decide (((0 : Nat) : Int) ≤ (7 - (k : Int)))) rfl (fun hc_6 => ?_) (fun hc_6 => ?_)
 ·have hc_6 := of_decide_eq_true hc_6
  refine T_skip ?_
  refine T_seq ?_
  refine T_block ?_
  refine lR ?_
  refine lM ?_
  refine lM ?_
  refine lM ?_
  refine T_slot 27 (.int .i64 (7 - (k : Int))) (.int .i64 ((7 - k : Nat) : Int)) rfl (by congr 1; omega) ?_
  refine lO (pr_mul (nm_i64 (a := 8) (b := 7 - k) sd) rfl rfl rfl) ?_
  refine lO (pr_cv (ni_u64 (a := 8 * (7 - k)) sd) Tryz.underlying3 Tryz.underlying39 rfl rfl) ?_
  refine lO (pr_shift (sh_shr64 ((BitVec.ofNat 64 n) * 8#64) _ (8 * (7 - k))) rfl rfl rfl rfl) ?_
  refine lO (pr_cv (cv64_8 _) Tryz.underlying23 Tryz.underlying5 rfl rfl) ?_
  refine L_op rfl (op_bslice (e := 5) (zs := [(b8 ((((BitVec.ofNat 64 n) * 8#64) >>> (8 * (7 - k))).setWidth 8))]) (qs := [(0, (b8 ((((BitVec.ofNat 64 n) * 8#64) >>> (8 * (7 - k))).setWidth 8)))]) (fun _ => by kernel_rfl) rfl rfl rfl rfl (fun g7 => ?_))
  refine L_op rfl (op_append (z := (b8 (0#8))) (size := 1) (bytes := 1) 1 rfl Tryz.underlying27 kr kr (by decide) (src_full (z := 1) 0 rfl rfl sd sd) (by simp [Value.oneCell']) sd sd rfl rfl rfl rfl rfl (fun A8 C9 => ?_))
  refine T_as 0 _ (.row (.slice A8 (1 + (119 - n % 64) % 64 + k + 1) C9) 5 1 (1 + (119 - n % 64) % 64 + k + 1) (((0x80#8 :: (List.replicate ((119 - n % 64) % 64) 0#8 ++ highb (BitVec.ofNat 64 n * 8#64) 8 k)) ++ [((((BitVec.ofNat 64 n) * 8#64) >>> (8 * (7 - k))).setWidth 8)]).map b8)) rfl (by congr 1; simp; done) ?_
  refine lS ?_
  refine L_nil ?_
  refine lR ?_
  refine lM ?_
  refine lO (pr_sub (zw_i64 (z := ((7 - (k : Int)) - ((1 : Nat) : Int))) sd) rfl rfl rfl) ?_
  refine lS ?_
  refine L_nil ?_
  refine T_slot 3 (.slice A8 (1 + (119 - n % 64) % 64 + k + 1) C9) (.slice A8 (1 + (119 - n % 64) % 64 + (k + 1)) C9) rfl (by congr 1 <;> omega) ?_
  refine T_slot 5 (.int .i64 ((7 - (k : Int)) - ((1 : Nat) : Int))) (.int .i64 (7 - ((k + 1) : Int))) rfl (by congr 1 <;> omega) ?_
  refine T_as 0 _ (.row (.slice A8 (1 + (119 - n % 64) % 64 + (k + 1)) C9) 5 1 (1 + (119 - n % 64) % 64 + (k + 1)) ((0x80#8 :: (List.replicate ((119 - n % 64) % 64) 0#8 ++ highb (BitVec.ofNat 64 n * 8#64) 8 (k + 1))).map b8)) rfl (by rw [pad_bits n k oM]; simp [Nat.add_assoc]) ?_
  exact T_again (k + 1, A8, C9) pN pN (sc rfl (sc rfl (sc rfl sn))) [0] ⟨by decide, rfl⟩
 have hc_6 := of_decide_eq_false hc_6
 refine T_exit rfl ?_
 obtain rfl : 8 = k := by omega
 refine lT ?_
 refine lM ?_
 refine lS ?_
 refine L_nil ?_
 refine T_ret ?_
 refine T_slot 2 (.slice A2 (1 + (119 - n % 64) % 64 + 8) c2) (.slice A2 (plen n) c2) rfl (by simp [plen]) ?_
 refine T_as 0 _ (.row (.slice A2 (plen n) c2) 5 1 (plen n) ((padb n).map b8)) rfl (by simp [padb, plen]) ?_
 exact T_fin (A2, c2) qN (res1 rfl rfl) [0] ⟨by decide, rfl⟩ rfl
set_option maxHeartbeats 4000000 in
theorem rsum_f (xs : List (BitVec 8)) (A : Option Addr) (n : Nat) (c : Nat) (w : World) (hO : HOK [.rd A 1 n c (xs.map b8)] w) (hx : xs.length = n) (hn : n ≤ 1000000000) : Calls Tryz.prog 97 [(.slice A n c)].toArray w (Ret (T := Unit) [] w (fun _ => True) (fun _ => (.agg ((shasum xs).map b8).toArray)) (fun _ => [])) := by
 have hkl : shaK.length = 64 := shaK_len
 have hpl : plen n ≤ 72 := plen_le _
 have hpm := plen_mod n
 have hml : (shamsg xs).length = n + plen n := by rw [shamsg_len, hx]
 have hpbl := padb_len n
 have hsl := shasum_len xs
 have hHl := shaH_len
 have hstl := fun k => hst_len (shamsg xs) k
 have hms : xs ++ padb n = shamsg xs := by rw [← hx, shamsg_def]
 have hso : shaout (hst (shamsg xs) ((n + plen n + 64 - 1) / 64)) 8 = shasum xs := by rw [shasum_def, hx]
 have hF : Wid Fence.wide := wid_wide
 refine enter (c := _) Tryz.func97 rfl [] _ [.rd A 1 n c (xs.map b8)] (by rw [Tryz.ntmps97]; rfl) (own_rds hO rfl) ?_
 rw [Tryz.ntmps97]
 refine lE [(0, (.slice A n c))] ?_
 refine lH [0] [.rd A 1 n c (xs.map b8)] ?_
 refine lT ?_
 refine L_op rfl (op_alloc (z := .agg ((List.replicate 32 0#8).map b8).toArray) (zs := ((List.replicate 32 0#8).map b8)) kr rfl rfl rfl rfl (fun g1 => ?_))
 refine lN ?_
 refine L_op rfl (op_cn (fun w hw => rwords_f  w (hok_nil w) ) (enters_of Tryz.func103 kr rfl) rfl rfl rfl rfl rfl (fun t2 q3 => ?_))
 refine L_op rfl (op_alloc (z := .agg ((List.replicate 64 0#32).map b32).toArray) (zs := ((List.replicate 64 0#32).map b32)) kr rfl rfl rfl rfl (fun g4 => ?_))
 refine L_op rfl (op_sto (n := 64) (vs := (shaK.map b32)) 0 rfl rfl kr (all32_one _) kr sd rfl rfl rfl rfl ?_)
 refine lN ?_
 refine lO (pr_build (qs := [(0, (b32 (1779033703#32))), (1, (b32 (3144134277#32))), (2, (b32 (1013904242#32))), (3, (b32 (2773480762#32))), (4, (b32 (1359893119#32))), (5, (b32 (2600822924#32))), (6, (b32 (528734635#32))), (7, (b32 (1541459225#32)))]) (v := .agg [(b32 (1779033703#32)), (b32 (3144134277#32)), (b32 (1013904242#32)), (b32 (2773480762#32)), (b32 (1359893119#32)), (b32 (2600822924#32)), (b32 (528734635#32)), (b32 (1541459225#32))].toArray) (fun _ => by kernel_rfl) rfl rfl) ?_
 refine L_op rfl (op_alloc (z := .agg [(b32 (0#32)), (b32 (0#32)), (b32 (0#32)), (b32 (0#32)), (b32 (0#32)), (b32 (0#32)), (b32 (0#32)), (b32 (0#32))].toArray) (zs := [(b32 (0#32)), (b32 (0#32)), (b32 (0#32)), (b32 (0#32)), (b32 (0#32)), (b32 (0#32)), (b32 (0#32)), (b32 (0#32))]) kr rfl rfl rfl rfl (fun g5 => ?_))
 refine L_op rfl (op_sto (n := 8) (vs := [(b32 (1779033703#32)), (b32 (3144134277#32)), (b32 (1013904242#32)), (b32 (2773480762#32)), (b32 (1359893119#32)), (b32 (2600822924#32)), (b32 (528734635#32)), (b32 (1541459225#32))]) 0 rfl rfl kr (by simp [Value.oneCell']) kr kr rfl rfl rfl rfl ?_)
 refine lN ?_
 refine lM ?_
 refine T_nilrow 5 1 ?_
 refine L_op rfl (op_append (z := (b8 (0#8))) (size := 1) (bytes := 1) 0 rfl Tryz.underlying27 kr kr (by decide) (src_rd 4 rfl) (all8_one _) sd sd rfl rfl rfl rfl rfl (fun A6 C7 => ?_))
 refine T_as 0 _ (.row (.slice A6 (0 + n) C7) 5 1 (0 + n) (xs.map b8)) rfl (by rfl) ?_
 refine lM ?_
 refine lO (pr_len_sl Tryz.underlying27 rfl rfl) ?_
 refine L_op rfl (op_cn (fun w hw => rpad_f n w (hok_nil w) sd) (enters_of Tryz.func104 kr rfl) rfl rfl rfl rfl rfl (fun t8 q9 => ?_))
 obtain ⟨B10, d11⟩ := t8
 refine L_op rfl (op_append (z := (b8 (0#8))) (size := 1) (bytes := 1) 1 rfl Tryz.underlying27 kr kr (by decide) (src_row 0 rfl) (all8_one _) sd sd rfl rfl rfl rfl rfl (fun A12 C13 => ?_))
 refine T_as 0 _ (.row (.slice A12 (0 + n + (plen n)) C13) 5 1 (0 + n + (plen n)) ((xs ++ padb n).map b8)) rfl (by congr 1; simp; done) ?_
 refine lS ?_
 refine L_nil ?_
 refine T_seq ?_
 refine lT ?_
 refine lS ?_
 refine L_nil ?_
 refine T_block ?_
 refine T_slot 6 (.int .i64 ((0 : Nat) : Int)) (.int .i64 ((64 * 0 : Nat) : Int)) rfl (by rfl) ?_
 refine T_as 2 _ (.blk g5 134 ((hst (shamsg xs) 0).map b32)) rfl (by rw [hst_zero]; unfold shaH; rfl) ?_
 refine T_loop (T := Nat) (fun k => k ≤ ((n + plen n + 64 - 1) / 64)) (fun k => [(2, (.pointer (some ⟨g1, 0, none⟩))), (3, (.pointer (some ⟨g4, 0, none⟩))), (4, (.pointer (some ⟨g5, 0, none⟩))), (5, (.slice A12 (0 + n + (plen n)) C13)), (6, (.int .i64 ((64 * k : Nat) : Int)))]) (fun k => [.row (.slice A12 (0 + n + (plen n)) C13) 5 1 (0 + n + (plen n)) ((xs ++ padb n).map b8), .row (.slice B10 (plen n) d11) 5 1 (plen n) ((padb n).map b8), .blk g5 134 ((hst (shamsg xs) k).map b32), .blk g4 132 (shaK.map b32), .blk g1 22 ((List.replicate 32 0#8).map b8), .rd A 1 n c (xs.map b8)]) (fun k => ((n + plen n + 64 - 1) / 64) - k) 0 pN (sc rfl (sc rfl (sc rfl (sc rfl (sc rfl sn))))) [1, 2, 0, 3, 4, 5] ⟨by decide, rfl⟩ ?_
 rintro k hp
 have hp : k ≤ ((n + plen n + 64 - 1) / 64) := hp
 have hk8 := hstl k
 have hwl := schw_len (List.take 64 (List.drop (64 * k) (shamsg xs))) 64
 refine lE [(2, (.pointer (some ⟨g1, 0, none⟩))), (3, (.pointer (some ⟨g4, 0, none⟩))), (4, (.pointer (some ⟨g5, 0, none⟩))), (5, (.slice A12 (0 + n + (plen n)) C13)), (6, (.int .i64 ((64 * k : Nat) : Int)))] ?_
 refine lH [0, 1, 2, 3, 4, 5] [.row (.slice A12 (0 + n + (plen n)) C13) 5 1 (0 + n + (plen n)) ((xs ++ padb n).map b8), .row (.slice B10 (plen n) d11) 5 1 (plen n) ((padb n).map b8), .blk g5 134 ((hst (shamsg xs) k).map b32), .blk g4 132 (shaK.map b32), .blk g1 22 ((List.replicate 32 0#8).map b8), .rd A 1 n c (xs.map b8)] ?_
 refine T_seq ?_
 refine lT ?_
 refine lM ?_
 refine lM ?_
 refine lO (pr_len_sl Tryz.underlying27 rfl rfl) ?_
 refine lO (pr_cmp (bo := .lss) (nc_lt (a := 64 * k) (b := 0 + n + (plen n))) rfl rfl rfl rfl) ?_
 refine L_nil ?_
 refine T_cond (decide (64 * k < 0 + n + (plen n))) rfl (fun hc_14 => ?_) (fun hc_14 => ?_)
 ·have hc_14 := of_decide_eq_true hc_14
  refine T_skip ?_
  refine T_seq ?_
  refine T_block ?_
  refine lT ?_
  refine L_op rfl (op_alloc (z := .agg ((List.replicate 64 0#32).map b32).toArray) (zs := ((List.replicate 64 0#32).map b32)) kr rfl rfl rfl rfl (fun g15 => ?_))
  refine L_nil ?_
  refine T_seq ?_
  refine lT ?_
  refine lS ?_
  refine L_nil ?_
  refine T_block ?_
  refine T_as 0 _ (.blk g15 132 ((fil (schw (List.take 64 (List.drop (64 * k) (shamsg xs))) 0) 64).map b32)) rfl (by rw [← fil_zero]) ?_
  refine T_loop (T := Nat) (fun j => j ≤ 64) (fun j => [(2, (.pointer (some ⟨g1, 0, none⟩))), (3, (.pointer (some ⟨g4, 0, none⟩))), (4, (.pointer (some ⟨g5, 0, none⟩))), (5, (.slice A12 (0 + n + (plen n)) C13)), (6, (.int .i64 ((64 * k : Nat) : Int))), (7, (.pointer (some ⟨g15, 0, none⟩))), (8, (.int .i64 ((j : Nat) : Int)))]) (fun j => [.blk g15 132 ((fil (schw (List.take 64 (List.drop (64 * k) (shamsg xs))) j) 64).map b32), .row (.slice A12 (0 + n + (plen n)) C13) 5 1 (0 + n + (plen n)) ((xs ++ padb n).map b8), .row (.slice B10 (plen n) d11) 5 1 (plen n) ((padb n).map b8), .blk g5 134 ((hst (shamsg xs) k).map b32), .blk g4 132 (shaK.map b32), .blk g1 22 ((List.replicate 32 0#8).map b8), .rd A 1 n c (xs.map b8)]) (fun j => 64 - j) 0 pN (sc rfl (sc rfl (sc rfl (sc rfl (sc rfl (sc rfl (sc rfl sn))))))) [0, 1, 2, 3, 4, 5, 6] ⟨by decide, rfl⟩ ?_
  rintro j hp
  have hp : j ≤ 64 := hp
  have hfl := fschw_len (List.take 64 (List.drop (64 * k) (shamsg xs))) j hp
  refine lE [(2, (.pointer (some ⟨g1, 0, none⟩))), (3, (.pointer (some ⟨g4, 0, none⟩))), (4, (.pointer (some ⟨g5, 0, none⟩))), (5, (.slice A12 (0 + n + (plen n)) C13)), (6, (.int .i64 ((64 * k : Nat) : Int))), (7, (.pointer (some ⟨g15, 0, none⟩))), (8, (.int .i64 ((j : Nat) : Int)))] ?_
  refine lH [0, 1, 2, 3, 4, 5, 6] [.blk g15 132 ((fil (schw (List.take 64 (List.drop (64 * k) (shamsg xs))) j) 64).map b32), .row (.slice A12 (0 + n + (plen n)) C13) 5 1 (0 + n + (plen n)) ((xs ++ padb n).map b8), .row (.slice B10 (plen n) d11) 5 1 (plen n) ((padb n).map b8), .blk g5 134 ((hst (shamsg xs) k).map b32), .blk g4 132 (shaK.map b32), .blk g1 22 ((List.replicate 32 0#8).map b8), .rd A 1 n c (xs.map b8)] ?_
  refine T_seq ?_
  refine lT ?_
  refine lM ?_
  refine lO (pr_cmp (bo := .lss) (nc_lt (a := j) (b := 64)) rfl rfl rfl rfl) ?_
  refine L_nil ?_
  refine T_cond (decide (j < 64)) rfl (fun hc_16 => ?_) (fun hc_16 => ?_)
  ·have hc_16 := of_decide_eq_true hc_16
   refine T_skip ?_
   refine T_seq ?_
   refine T_block ?_
   refine T_seq ?_
   refine lT ?_
   refine lM ?_
   refine lO (pr_cmp (bo := .lss) (nc_lt (a := j) (b := 16)) rfl rfl rfl rfl) ?_
   refine L_nil ?_
   refine T_cond (decide (j < 16)) rfl (fun hc_17 => ?_) (fun hc_17 => ?_)
   ·have hc_17 := of_decide_eq_true hc_17
    refine lT ?_
    refine lM ?_
    refine lM ?_
    refine lO (pr_mul (nm_i64 (a := 4) (b := j) sd) rfl rfl rfl) ?_
    refine lO (pr_add (na_i64 (a := 64 * k) (b := 4 * j) sd) rfl rfl rfl) ?_
    refine lS ?_
    refine L_nil ?_
    refine T_seq ?_
    refine T_regD [.blk g15 132 ((fil (schw (List.take 64 (List.drop (64 * k) (shamsg xs))) j) 64).map b32), .row (.slice A12 (0 + n + (plen n)) C13) 5 1 (0 + n + (plen n)) ((xs ++ padb n).map b8), .row (.slice B10 (plen n) d11) 5 1 (plen n) ((padb n).map b8), .blk g5 134 ((hst (shamsg xs) k).map b32), .blk g4 132 (shaK.map b32), .blk g1 22 ((List.replicate 32 0#8).map b8), .rd A 1 n c (xs.map b8)] 31 32 #[false, false, false, false, false, false, false, false, false, false, false, false, false, false, false, false, false, false, false, false, false, false, false, false, false, false, false, false, false, false, false, false] hF kr kr ?_
    refine D_pure (i := 0) [0, 1, 2, 3, 4, 5, 6] rfl kr rfl (pr_move rfl rfl) (.inr rfl) rfl rfl ?_
    refine D_pure (i := 1) [0, 1, 2, 3, 4, 5, 6] rfl kr rfl (pr_move rfl rfl) (.inr rfl) rfl rfl ?_
    refine D_pure (i := 2) [0, 1, 2, 3, 4, 5, 6] rfl kr rfl (pr_move rfl rfl) (.inr rfl) rfl rfl ?_
    refine D_pure (i := 3) [0, 1, 2, 3, 4, 5, 6] rfl kr rfl (pr_ixs1 (j := 64 * k + (4 * j)) (src_none (src_row 1 rfl)) sd Tryz.underlying27 kr rfl rfl rfl) (.inr rfl) rfl rfl ?_
    refine D_pure (i := 7) [0, 1, 2, 3, 4, 5, 6] rfl kr rfl (pr_move rfl rfl) (.inr rfl) rfl rfl ?_
    refine D_pure (i := 8) [0, 1, 2, 3, 4, 5, 6] rfl kr rfl (pr_move rfl rfl) (.inr rfl) rfl rfl ?_
    refine D_pure (i := 9) [0, 1, 2, 3, 4, 5, 6] rfl kr rfl (pr_add (na_i64 (a := 64 * k + (4 * j)) (b := 1) sd) rfl rfl rfl) (.inr rfl) rfl rfl ?_
    refine D_pure (i := 10) [0, 1, 2, 3, 4, 5, 6] rfl kr rfl (pr_ixs1 (j := 64 * k + (4 * j) + 1) (src_none (src_row 1 rfl)) sd Tryz.underlying27 kr rfl rfl rfl) (.inr rfl) rfl rfl ?_
    refine D_pure (i := 15) [0, 1, 2, 3, 4, 5, 6] rfl kr rfl (pr_move rfl rfl) (.inr rfl) rfl rfl ?_
    refine D_pure (i := 16) [0, 1, 2, 3, 4, 5, 6] rfl kr rfl (pr_move rfl rfl) (.inr rfl) rfl rfl ?_
    refine D_pure (i := 17) [0, 1, 2, 3, 4, 5, 6] rfl kr rfl (pr_add (na_i64 (a := 64 * k + (4 * j)) (b := 2) sd) rfl rfl rfl) (.inr rfl) rfl rfl ?_
    refine D_pure (i := 18) [0, 1, 2, 3, 4, 5, 6] rfl kr rfl (pr_ixs1 (j := 64 * k + (4 * j) + 2) (src_none (src_row 1 rfl)) sd Tryz.underlying27 kr rfl rfl rfl) (.inr rfl) rfl rfl ?_
    refine D_pure (i := 23) [0, 1, 2, 3, 4, 5, 6] rfl kr rfl (pr_move rfl rfl) (.inr rfl) rfl rfl ?_
    refine D_pure (i := 24) [0, 1, 2, 3, 4, 5, 6] rfl kr rfl (pr_move rfl rfl) (.inr rfl) rfl rfl ?_
    refine D_pure (i := 25) [0, 1, 2, 3, 4, 5, 6] rfl kr rfl (pr_add (na_i64 (a := 64 * k + (4 * j)) (b := 3) sd) rfl rfl rfl) (.inr rfl) rfl rfl ?_
    refine D_pure (i := 26) [0, 1, 2, 3, 4, 5, 6] rfl kr rfl (pr_ixs1 (j := 64 * k + (4 * j) + 3) (src_none (src_row 1 rfl)) sd Tryz.underlying27 kr rfl rfl rfl) (.inr rfl) rfl rfl ?_
    refine D_take (i := 4) [0, 1, 2, 3, 4, 5, 6] rfl kr rfl (ld_src (m := 64 * k + (4 * j)) (src_row 1 rfl) (get8 sd) Tryz.underlying5 rfl rfl rfl) rfl rfl rfl ?_
    refine D_pure (i := 5) [0, 1, 2, 3, 4, 5, 6] rfl kr rfl (pr_cv (cv8_32 _) Tryz.underlying5 Tryz.underlying61 rfl rfl) (.inr rfl) rfl rfl ?_
    refine D_pure (i := 6) [0, 1, 2, 3, 4, 5, 6] rfl kr rfl (pr_shift (sh_shl32 ((ath (xs ++ padb n) (64 * k + (4 * j))).setWidth 32) _ 24) rfl rfl rfl rfl) (.inr rfl) rfl rfl ?_
    refine D_take (i := 11) [0, 1, 2, 3, 4, 5, 6] rfl kr rfl (ld_src (m := 64 * k + (4 * j) + 1) (src_row 1 rfl) (get8 sd) Tryz.underlying5 rfl rfl rfl) rfl rfl rfl ?_
    refine D_pure (i := 12) [0, 1, 2, 3, 4, 5, 6] rfl kr rfl (pr_cv (cv8_32 _) Tryz.underlying5 Tryz.underlying61 rfl rfl) (.inr rfl) rfl rfl ?_
    refine D_pure (i := 13) [0, 1, 2, 3, 4, 5, 6] rfl kr rfl (pr_shift (sh_shl32 ((ath (xs ++ padb n) (64 * k + (4 * j) + 1)).setWidth 32) _ 16) rfl rfl rfl rfl) (.inr rfl) rfl rfl ?_
    refine D_pure (i := 14) [0, 1, 2, 3, 4, 5, 6] rfl kr rfl (pr_or (ib_or32 _ _) rfl rfl rfl) (.inr rfl) rfl rfl ?_
    refine D_take (i := 19) [0, 1, 2, 3, 4, 5, 6] rfl kr rfl (ld_src (m := 64 * k + (4 * j) + 2) (src_row 1 rfl) (get8 sd) Tryz.underlying5 rfl rfl rfl) rfl rfl rfl ?_
    refine D_pure (i := 20) [0, 1, 2, 3, 4, 5, 6] rfl kr rfl (pr_cv (cv8_32 _) Tryz.underlying5 Tryz.underlying61 rfl rfl) (.inr rfl) rfl rfl ?_
    refine D_pure (i := 21) [0, 1, 2, 3, 4, 5, 6] rfl kr rfl (pr_shift (sh_shl32 ((ath (xs ++ padb n) (64 * k + (4 * j) + 2)).setWidth 32) _ 8) rfl rfl rfl rfl) (.inr rfl) rfl rfl ?_
    refine D_pure (i := 22) [0, 1, 2, 3, 4, 5, 6] rfl kr rfl (pr_or (ib_or32 _ _) rfl rfl rfl) (.inr rfl) rfl rfl ?_
    refine D_take (i := 27) [0, 1, 2, 3, 4, 5, 6] rfl kr rfl (ld_src (m := 64 * k + (4 * j) + 3) (src_row 1 rfl) (get8 sd) Tryz.underlying5 rfl rfl rfl) rfl rfl rfl ?_
    refine D_pure (i := 28) [0, 1, 2, 3, 4, 5, 6] rfl kr rfl (pr_cv (cv8_32 _) Tryz.underlying5 Tryz.underlying61 rfl rfl) (.inr rfl) rfl rfl ?_
    refine D_pure (i := 29) [0, 1, 2, 3, 4, 5, 6] rfl kr rfl (pr_or (ib_or32 _ _) rfl rfl rfl) (.inr rfl) rfl rfl ?_
    refine D_pure (i := 30) [0, 1, 2, 3, 4, 5, 6] rfl kr rfl (pr_ixa (j := j) (m' := j) sd oM Tryz.underlying132 (z := 1) kr rfl rfl rfl) (.inr rfl) rfl rfl ?_
    refine D_one 31 _ rfl kr rfl (op_store (vs := [(b32 ((((((ath (xs ++ padb n) (64 * k + (4 * j))).setWidth 32) <<< 24) ||| (((ath (xs ++ padb n) (64 * k + (4 * j) + 1)).setWidth 32) <<< 16)) ||| (((ath (xs ++ padb n) (64 * k + (4 * j) + 2)).setWidth 32) <<< 8)) ||| ((ath (xs ++ padb n) (64 * k + (4 * j) + 3)).setWidth 32)))]) (cs' := ((List.set (fil (schw (List.take 64 (List.drop (64 * k) (shamsg xs))) j) 64) j ((((((ath (xs ++ padb n) (64 * k + (4 * j))).setWidth 32) <<< 24) ||| (((ath (xs ++ padb n) (64 * k + (4 * j) + 1)).setWidth 32) <<< 16)) ||| (((ath (xs ++ padb n) (64 * k + (4 * j) + 2)).setWidth 32) <<< 8)) ||| ((ath (xs ++ padb n) (64 * k + (4 * j) + 3)).setWidth 32))).map b32)) 0 rfl rfl kr (one_one rfl) (stl sd) (splice_map (f := b32) sd) rfl rfl rfl rfl ?_)
    refine D_past kr ?_
    refine D_done kr ?_
    refine T_exit rfl ?_
    refine lR ?_
    refine lM ?_
    refine lO (pr_add (na_i64 (a := j) (b := 1) sd) rfl rfl rfl) ?_
    refine lS ?_
    refine L_nil ?_
    refine T_as 0 _ (.blk g15 132 ((fil (schw (List.take 64 (List.drop (64 * k) (shamsg xs))) (j + 1)) 64).map b32)) rfl (by rw [hms, rsch_lo (shamsg xs) k j oM]) ?_
    exact T_again (j + 1) pN pN (sc rfl (sc rfl (sc rfl (sc rfl (sc rfl (sc rfl (sc rfl sn))))))) [0, 1, 2, 3, 4, 5, 6] ⟨by decide, rfl⟩
   have hc_17 := of_decide_eq_false hc_17
   refine T_skip ?_
   refine T_seq ?_
   refine T_regD [.blk g15 132 ((fil (schw (List.take 64 (List.drop (64 * k) (shamsg xs))) j) 64).map b32), .row (.slice A12 (0 + n + (plen n)) C13) 5 1 (0 + n + (plen n)) ((xs ++ padb n).map b8), .row (.slice B10 (plen n) d11) 5 1 (plen n) ((padb n).map b8), .blk g5 134 ((hst (shamsg xs) k).map b32), .blk g4 132 (shaK.map b32), .blk g1 22 ((List.replicate 32 0#8).map b8), .rd A 1 n c (xs.map b8)] 10 10 #[false, false, false, false, false, false, false, false, false, false] hF kr kr ?_
   refine D_pure (i := 0) [0, 1, 2, 3, 4, 5, 6] rfl kr rfl (pr_move rfl rfl) (.inr rfl) rfl rfl ?_
   refine D_pure (i := 1) [0, 1, 2, 3, 4, 5, 6] rfl kr rfl (pr_sub (ns_i64 (a := j) (b := 15) sd sd) rfl rfl rfl) (.inr rfl) rfl rfl ?_
   refine D_pure (i := 2) [0, 1, 2, 3, 4, 5, 6] rfl kr rfl (pr_ixa (j := j - 15) (m' := j - 15) sd oM Tryz.underlying132 (z := 1) kr rfl rfl rfl) (.inr rfl) rfl rfl ?_
   refine D_pure (i := 4) [0, 1, 2, 3, 4, 5, 6] rfl kr rfl (pr_move rfl rfl) (.inr rfl) rfl rfl ?_
   refine D_pure (i := 5) [0, 1, 2, 3, 4, 5, 6] rfl kr rfl (pr_sub (ns_i64 (a := j) (b := 2) sd sd) rfl rfl rfl) (.inr rfl) rfl rfl ?_
   refine D_pure (i := 6) [0, 1, 2, 3, 4, 5, 6] rfl kr rfl (pr_ixa (j := j - 2) (m' := j - 2) sd oM Tryz.underlying132 (z := 1) kr rfl rfl rfl) (.inr rfl) rfl rfl ?_
   refine D_take (i := 3) [0, 1, 2, 3, 4, 5, 6] rfl kr rfl (ld_blk 0 rfl (get32 sd) Tryz.underlying61 rfl rfl rfl) rfl rfl rfl ?_
   refine D_pure (i := 8) [0, 1, 2, 3, 4, 5, 6] rfl kr rfl (pr_assign rfl rfl) (.inr rfl) rfl rfl ?_
   refine D_take (i := 7) [0, 1, 2, 3, 4, 5, 6] rfl kr rfl (ld_blk 0 rfl (get32 sd) Tryz.underlying61 rfl rfl rfl) rfl rfl rfl ?_
   refine D_pure (i := 9) [0, 1, 2, 3, 4, 5, 6] rfl kr rfl (pr_assign rfl rfl) (.inr rfl) rfl rfl ?_
   refine D_done kr ?_
   refine lT ?_
   refine lM ?_
   refine L_op rfl (op_cn (fun w hw => turn_f (ath (fil (schw (List.take 64 (List.drop (64 * k) (shamsg xs))) j) 64) (j - 15)) 7 w (hok_nil w) sd sd) (enters_of Tryz.func105 kr rfl) rfl rfl rfl rfl rfl (fun t18 q19 => ?_))
   refine lM ?_
   refine L_op rfl (op_cn (fun w hw => turn_f (ath (fil (schw (List.take 64 (List.drop (64 * k) (shamsg xs))) j) 64) (j - 15)) 18 w (hok_nil w) sd sd) (enters_of Tryz.func105 kr rfl) rfl rfl rfl rfl rfl (fun t20 q21 => ?_))
   refine lO (pr_xor (ib_xor32 _ _) rfl rfl rfl) ?_
   refine lM ?_
   refine lO (pr_shift (sh_shr32 (ath (fil (schw (List.take 64 (List.drop (64 * k) (shamsg xs))) j) 64) (j - 15)) _ 3) rfl rfl rfl rfl) ?_
   refine lO (pr_xor (ib_xor32 _ _) rfl rfl rfl) ?_
   refine lS ?_
   refine lN ?_
   refine lM ?_
   refine L_op rfl (op_cn (fun w hw => turn_f (ath (fil (schw (List.take 64 (List.drop (64 * k) (shamsg xs))) j) 64) (j - 2)) 17 w (hok_nil w) sd sd) (enters_of Tryz.func105 kr rfl) rfl rfl rfl rfl rfl (fun t22 q23 => ?_))
   refine lM ?_
   refine L_op rfl (op_cn (fun w hw => turn_f (ath (fil (schw (List.take 64 (List.drop (64 * k) (shamsg xs))) j) 64) (j - 2)) 19 w (hok_nil w) sd sd) (enters_of Tryz.func105 kr rfl) rfl rfl rfl rfl rfl (fun t24 q25 => ?_))
   refine lO (pr_xor (ib_xor32 _ _) rfl rfl rfl) ?_
   refine lM ?_
   refine lO (pr_shift (sh_shr32 (ath (fil (schw (List.take 64 (List.drop (64 * k) (shamsg xs))) j) 64) (j - 2)) _ 10) rfl rfl rfl rfl) ?_
   refine lO (pr_xor (ib_xor32 _ _) rfl rfl rfl) ?_
   refine lS ?_
   refine L_nil ?_
   refine T_regD [.blk g15 132 ((fil (schw (List.take 64 (List.drop (64 * k) (shamsg xs))) j) 64).map b32), .row (.slice A12 (0 + n + (plen n)) C13) 5 1 (0 + n + (plen n)) ((xs ++ padb n).map b8), .row (.slice B10 (plen n) d11) 5 1 (plen n) ((padb n).map b8), .blk g5 134 ((hst (shamsg xs) k).map b32), .blk g4 132 (shaK.map b32), .blk g1 22 ((List.replicate 32 0#8).map b8), .rd A 1 n c (xs.map b8)] 15 16 #[false, false, false, false, false, false, false, false, false, false, false, false, false, false, false, false] hF kr kr ?_
   refine D_pure (i := 0) [0, 1, 2, 3, 4, 5, 6] rfl kr rfl (pr_move rfl rfl) (.inr rfl) rfl rfl ?_
   refine D_pure (i := 1) [0, 1, 2, 3, 4, 5, 6] rfl kr rfl (pr_move rfl rfl) (.inr rfl) rfl rfl ?_
   refine D_pure (i := 2) [0, 1, 2, 3, 4, 5, 6] rfl kr rfl (pr_move rfl rfl) (.inr rfl) rfl rfl ?_
   refine D_pure (i := 3) [0, 1, 2, 3, 4, 5, 6] rfl kr rfl (pr_sub (ns_i64 (a := j) (b := 7) sd sd) rfl rfl rfl) (.inr rfl) rfl rfl ?_
   refine D_pure (i := 4) [0, 1, 2, 3, 4, 5, 6] rfl kr rfl (pr_ixa (j := j - 7) (m' := j - 7) sd oM Tryz.underlying132 (z := 1) kr rfl rfl rfl) (.inr rfl) rfl rfl ?_
   refine D_pure (i := 7) [0, 1, 2, 3, 4, 5, 6] rfl kr rfl (pr_move rfl rfl) (.inr rfl) rfl rfl ?_
   refine D_pure (i := 9) [0, 1, 2, 3, 4, 5, 6] rfl kr rfl (pr_move rfl rfl) (.inr rfl) rfl rfl ?_
   refine D_pure (i := 10) [0, 1, 2, 3, 4, 5, 6] rfl kr rfl (pr_sub (ns_i64 (a := j) (b := 16) sd sd) rfl rfl rfl) (.inr rfl) rfl rfl ?_
   refine D_pure (i := 11) [0, 1, 2, 3, 4, 5, 6] rfl kr rfl (pr_ixa (j := j - 16) (m' := j - 16) sd oM Tryz.underlying132 (z := 1) kr rfl rfl rfl) (.inr rfl) rfl rfl ?_
   refine D_take (i := 5) [0, 1, 2, 3, 4, 5, 6] rfl kr rfl (ld_blk 0 rfl (get32 sd) Tryz.underlying61 rfl rfl rfl) rfl rfl rfl ?_
   refine D_pure (i := 6) [0, 1, 2, 3, 4, 5, 6] rfl kr rfl (pr_add (add32 _ _) rfl rfl rfl) (.inr rfl) rfl rfl ?_
   refine D_pure (i := 8) [0, 1, 2, 3, 4, 5, 6] rfl kr rfl (pr_add (add32 _ _) rfl rfl rfl) (.inr rfl) rfl rfl ?_
   refine D_take (i := 12) [0, 1, 2, 3, 4, 5, 6] rfl kr rfl (ld_blk 0 rfl (get32 sd) Tryz.underlying61 rfl rfl rfl) rfl rfl rfl ?_
   refine D_pure (i := 13) [0, 1, 2, 3, 4, 5, 6] rfl kr rfl (pr_add (add32 _ _) rfl rfl rfl) (.inr rfl) rfl rfl ?_
   refine D_pure (i := 14) [0, 1, 2, 3, 4, 5, 6] rfl kr rfl (pr_ixa (j := j) (m' := j) sd oM Tryz.underlying132 (z := 1) kr rfl rfl rfl) (.inr rfl) rfl rfl ?_
   refine D_one 15 _ rfl kr rfl (op_store (vs := [(b32 ((((((ror32 (ath (fil (schw (List.take 64 (List.drop (64 * k) (shamsg xs))) j) 64) (j - 2)) 17) ^^^ (ror32 (ath (fil (schw (List.take 64 (List.drop (64 * k) (shamsg xs))) j) 64) (j - 2)) 19)) ^^^ ((ath (fil (schw (List.take 64 (List.drop (64 * k) (shamsg xs))) j) 64) (j - 2)) >>> 10)) + (ath (fil (schw (List.take 64 (List.drop (64 * k) (shamsg xs))) j) 64) (j - 7))) + (((ror32 (ath (fil (schw (List.take 64 (List.drop (64 * k) (shamsg xs))) j) 64) (j - 15)) 7) ^^^ (ror32 (ath (fil (schw (List.take 64 (List.drop (64 * k) (shamsg xs))) j) 64) (j - 15)) 18)) ^^^ ((ath (fil (schw (List.take 64 (List.drop (64 * k) (shamsg xs))) j) 64) (j - 15)) >>> 3))) + (ath (fil (schw (List.take 64 (List.drop (64 * k) (shamsg xs))) j) 64) (j - 16))))]) (cs' := ((List.set (fil (schw (List.take 64 (List.drop (64 * k) (shamsg xs))) j) 64) j ((((((ror32 (ath (fil (schw (List.take 64 (List.drop (64 * k) (shamsg xs))) j) 64) (j - 2)) 17) ^^^ (ror32 (ath (fil (schw (List.take 64 (List.drop (64 * k) (shamsg xs))) j) 64) (j - 2)) 19)) ^^^ ((ath (fil (schw (List.take 64 (List.drop (64 * k) (shamsg xs))) j) 64) (j - 2)) >>> 10)) + (ath (fil (schw (List.take 64 (List.drop (64 * k) (shamsg xs))) j) 64) (j - 7))) + (((ror32 (ath (fil (schw (List.take 64 (List.drop (64 * k) (shamsg xs))) j) 64) (j - 15)) 7) ^^^ (ror32 (ath (fil (schw (List.take 64 (List.drop (64 * k) (shamsg xs))) j) 64) (j - 15)) 18)) ^^^ ((ath (fil (schw (List.take 64 (List.drop (64 * k) (shamsg xs))) j) 64) (j - 15)) >>> 3))) + (ath (fil (schw (List.take 64 (List.drop (64 * k) (shamsg xs))) j) 64) (j - 16)))).map b32)) 0 rfl rfl kr (one_one rfl) (stl sd) (splice_map (f := b32) sd) rfl rfl rfl rfl ?_)
   refine D_past kr ?_
   refine D_done kr ?_
   refine lR ?_
   refine lM ?_
   refine lO (pr_add (na_i64 (a := j) (b := 1) sd) rfl rfl rfl) ?_
   refine lS ?_
   refine L_nil ?_
   refine T_as 0 _ (.blk g15 132 ((fil (schw (List.take 64 (List.drop (64 * k) (shamsg xs))) (j + 1)) 64).map b32)) rfl (by rw [sig0_def, sig1_def, schw_hi (List.take 64 (List.drop (64 * k) (shamsg xs))) j oM oM _ (by ac_rfl)]) ?_
   exact T_again (j + 1) pN pN (sc rfl (sc rfl (sc rfl (sc rfl (sc rfl (sc rfl (sc rfl sn))))))) [0, 1, 2, 3, 4, 5, 6] ⟨by decide, rfl⟩
  have hc_16 := of_decide_eq_false hc_16
  refine T_exit rfl ?_
  obtain rfl : 64 = j := by omega
  refine lT ?_
  refine lQ (ld_agg (ds := ((hst (shamsg xs) k).map b32)) 3 rfl agg_all Tryz.underlying134 rfl (fwz (n := 8) kr sd) rfl rfl) ?_
  refine L_op rfl (op_alloc (z := .agg [(b32 (0#32)), (b32 (0#32)), (b32 (0#32)), (b32 (0#32)), (b32 (0#32)), (b32 (0#32)), (b32 (0#32)), (b32 (0#32))].toArray) (zs := [(b32 (0#32)), (b32 (0#32)), (b32 (0#32)), (b32 (0#32)), (b32 (0#32)), (b32 (0#32)), (b32 (0#32)), (b32 (0#32))]) kr rfl rfl rfl rfl (fun g26 => ?_))
  refine L_op rfl (op_sto (n := 8) (vs := ((hst (shamsg xs) k).map b32)) 0 rfl rfl kr (all32_one _) kr sd rfl rfl rfl rfl ?_)
  refine L_nil ?_
  refine T_seq ?_
  refine lT ?_
  refine lS ?_
  refine L_nil ?_
  refine T_block ?_
  refine T_as 0 _ (.blk g26 134 ((rounds (hst (shamsg xs) k) (schw (List.take 64 (List.drop (64 * k) (shamsg xs))) 64) 0).map b32)) rfl (by rw [rounds_zero]) ?_
  refine T_as 1 _ (.blk g15 132 ((schw (List.take 64 (List.drop (64 * k) (shamsg xs))) 64).map b32)) rfl (by rw [fil_all]) ?_
  refine T_loop (T := Nat) (fun i => i ≤ 64) (fun i => [(2, (.pointer (some ⟨g1, 0, none⟩))), (3, (.pointer (some ⟨g4, 0, none⟩))), (4, (.pointer (some ⟨g5, 0, none⟩))), (5, (.slice A12 (0 + n + (plen n)) C13)), (6, (.int .i64 ((64 * k : Nat) : Int))), (7, (.pointer (some ⟨g15, 0, none⟩))), (14, (.pointer (some ⟨g26, 0, none⟩))), (15, (.int .i64 ((i : Nat) : Int)))]) (fun i => [.blk g26 134 ((rounds (hst (shamsg xs) k) (schw (List.take 64 (List.drop (64 * k) (shamsg xs))) 64) i).map b32), .blk g15 132 ((schw (List.take 64 (List.drop (64 * k) (shamsg xs))) 64).map b32), .row (.slice A12 (0 + n + (plen n)) C13) 5 1 (0 + n + (plen n)) ((xs ++ padb n).map b8), .row (.slice B10 (plen n) d11) 5 1 (plen n) ((padb n).map b8), .blk g5 134 ((hst (shamsg xs) k).map b32), .blk g4 132 (shaK.map b32), .blk g1 22 ((List.replicate 32 0#8).map b8), .rd A 1 n c (xs.map b8)]) (fun i => 64 - i) 0 pN (sc rfl (sc rfl (sc rfl (sc rfl (sc rfl (sc rfl (sc rfl (sc rfl sn)))))))) [1, 0, 2, 3, 4, 5, 6, 7] ⟨by decide, rfl⟩ ?_
  rintro i hp
  have hp : i ≤ 64 := hp
  have hrk := rounds_len (hst (shamsg xs) k) (schw (List.take 64 (List.drop (64 * k) (shamsg xs))) 64) hk8 i
  refine lE [(2, (.pointer (some ⟨g1, 0, none⟩))), (3, (.pointer (some ⟨g4, 0, none⟩))), (4, (.pointer (some ⟨g5, 0, none⟩))), (5, (.slice A12 (0 + n + (plen n)) C13)), (6, (.int .i64 ((64 * k : Nat) : Int))), (7, (.pointer (some ⟨g15, 0, none⟩))), (14, (.pointer (some ⟨g26, 0, none⟩))), (15, (.int .i64 ((i : Nat) : Int)))] ?_
  refine lH [0, 1, 2, 3, 4, 5, 6, 7] [.blk g26 134 ((rounds (hst (shamsg xs) k) (schw (List.take 64 (List.drop (64 * k) (shamsg xs))) 64) i).map b32), .blk g15 132 ((schw (List.take 64 (List.drop (64 * k) (shamsg xs))) 64).map b32), .row (.slice A12 (0 + n + (plen n)) C13) 5 1 (0 + n + (plen n)) ((xs ++ padb n).map b8), .row (.slice B10 (plen n) d11) 5 1 (plen n) ((padb n).map b8), .blk g5 134 ((hst (shamsg xs) k).map b32), .blk g4 132 (shaK.map b32), .blk g1 22 ((List.replicate 32 0#8).map b8), .rd A 1 n c (xs.map b8)] ?_
  refine T_seq ?_
  refine lT ?_
  refine lM ?_
  refine lO (pr_cmp (bo := .lss) (nc_lt (a := i) (b := 64)) rfl rfl rfl rfl) ?_
  refine L_nil ?_
  refine T_cond (decide (i < 64)) rfl (fun hc_27 => ?_) (fun hc_27 => ?_)
  ·have hc_27 := of_decide_eq_true hc_27
   refine T_skip ?_
   refine T_seq ?_
   refine T_block ?_
   refine T_seq ?_
   refine T_regD [.blk g26 134 ((rounds (hst (shamsg xs) k) (schw (List.take 64 (List.drop (64 * k) (shamsg xs))) 64) i).map b32), .blk g15 132 ((schw (List.take 64 (List.drop (64 * k) (shamsg xs))) 64).map b32), .row (.slice A12 (0 + n + (plen n)) C13) 5 1 (0 + n + (plen n)) ((xs ++ padb n).map b8), .row (.slice B10 (plen n) d11) 5 1 (plen n) ((padb n).map b8), .blk g5 134 ((hst (shamsg xs) k).map b32), .blk g4 132 (shaK.map b32), .blk g1 22 ((List.replicate 32 0#8).map b8), .rd A 1 n c (xs.map b8)] 12 12 #[false, false, false, false, false, false, false, false, false, false, false, false] hF kr kr ?_
   refine D_pure (i := 0) [0, 1, 2, 3, 4, 5, 6, 7] rfl kr rfl (pr_ixa (j := 4) (m' := 4) sd oM Tryz.underlying134 (z := 1) kr rfl rfl rfl) (.inr rfl) rfl rfl ?_
   refine D_pure (i := 3) [0, 1, 2, 3, 4, 5, 6, 7] rfl kr rfl (pr_ixa (j := 4) (m' := 4) sd oM Tryz.underlying134 (z := 1) kr rfl rfl rfl) (.inr rfl) rfl rfl ?_
   refine D_pure (i := 7) [0, 1, 2, 3, 4, 5, 6, 7] rfl kr rfl (pr_ixa (j := 4) (m' := 4) sd oM Tryz.underlying134 (z := 1) kr rfl rfl rfl) (.inr rfl) rfl rfl ?_
   refine D_take (i := 1) [0, 1, 2, 3, 4, 5, 6, 7] rfl kr rfl (ld_blk 0 rfl (get32 sd) Tryz.underlying61 rfl rfl rfl) rfl rfl rfl ?_
   refine D_take (i := 4) [0, 1, 2, 3, 4, 5, 6, 7] rfl kr rfl (ld_blk 0 rfl (get32 sd) Tryz.underlying61 rfl rfl rfl) rfl rfl rfl ?_
   refine D_take (i := 8) [0, 1, 2, 3, 4, 5, 6, 7] rfl kr rfl (ld_blk 0 rfl (get32 sd) Tryz.underlying61 rfl rfl rfl) rfl rfl rfl ?_
   refine D_one 2 _ rfl kr rfl (op_cn (fun w hw => turn_f (ath (rounds (hst (shamsg xs) k) (schw (List.take 64 (List.drop (64 * k) (shamsg xs))) 64) i) 4) 6 w (hok_nil w) sd sd) (enters_of Tryz.func105 kr rfl) rfl rfl rfl rfl rfl (fun t28 q29 => ?_))
   refine D_on [0, 1, 2, 3, 4, 5, 6, 7] rfl ?_
   refine D_one 5 _ rfl kr rfl (op_cn (fun w hw => turn_f (ath (rounds (hst (shamsg xs) k) (schw (List.take 64 (List.drop (64 * k) (shamsg xs))) 64) i) 4) 11 w (hok_nil w) sd sd) (enters_of Tryz.func105 kr rfl) rfl rfl rfl rfl rfl (fun t30 q31 => ?_))
   refine D_on [0, 1, 2, 3, 4, 5, 6, 7] rfl ?_
   refine D_pure (i := 6) [0, 1, 2, 3, 4, 5, 6, 7] rfl kr rfl (pr_xor (ib_xor32 _ _) rfl rfl rfl) (.inr rfl) rfl rfl ?_
   refine D_one 9 _ rfl kr rfl (op_cn (fun w hw => turn_f (ath (rounds (hst (shamsg xs) k) (schw (List.take 64 (List.drop (64 * k) (shamsg xs))) 64) i) 4) 25 w (hok_nil w) sd sd) (enters_of Tryz.func105 kr rfl) rfl rfl rfl rfl rfl (fun t32 q33 => ?_))
   refine D_on [0, 1, 2, 3, 4, 5, 6, 7] rfl ?_
   refine D_pure (i := 10) [0, 1, 2, 3, 4, 5, 6, 7] rfl kr rfl (pr_xor (ib_xor32 _ _) rfl rfl rfl) (.inr rfl) rfl rfl ?_
   refine D_pure (i := 11) [0, 1, 2, 3, 4, 5, 6, 7] rfl kr rfl (pr_assign rfl rfl) (.inr rfl) rfl rfl ?_
   refine D_done kr ?_
   refine lT ?_
   refine lO (pr_ixa (j := 4) (m' := 4) sd oM Tryz.underlying134 (z := 1) kr rfl rfl rfl) ?_
   refine lQ (ld_blk 0 rfl (get32 sd) Tryz.underlying61 rfl rfl rfl) ?_
   refine lO (pr_ixa (j := 5) (m' := 5) sd oM Tryz.underlying134 (z := 1) kr rfl rfl rfl) ?_
   refine lQ (ld_blk 0 rfl (get32 sd) Tryz.underlying61 rfl rfl rfl) ?_
   refine lO (pr_and (ib_and32 _ _) rfl rfl rfl) ?_
   refine lO (pr_ixa (j := 4) (m' := 4) sd oM Tryz.underlying134 (z := 1) kr rfl rfl rfl) ?_
   refine lQ (ld_blk 0 rfl (get32 sd) Tryz.underlying61 rfl rfl rfl) ?_
   refine lO (pr_un (not32 _) rfl rfl) ?_
   refine lO (pr_ixa (j := 6) (m' := 6) sd oM Tryz.underlying134 (z := 1) kr rfl rfl rfl) ?_
   refine lQ (ld_blk 0 rfl (get32 sd) Tryz.underlying61 rfl rfl rfl) ?_
   refine lO (pr_and (ib_and32 _ _) rfl rfl rfl) ?_
   refine lO (pr_xor (ib_xor32 _ _) rfl rfl rfl) ?_
   refine lS ?_
   refine L_nil ?_
   refine T_seq ?_
   refine T_regD [.blk g26 134 ((rounds (hst (shamsg xs) k) (schw (List.take 64 (List.drop (64 * k) (shamsg xs))) 64) i).map b32), .blk g15 132 ((schw (List.take 64 (List.drop (64 * k) (shamsg xs))) 64).map b32), .row (.slice A12 (0 + n + (plen n)) C13) 5 1 (0 + n + (plen n)) ((xs ++ padb n).map b8), .row (.slice B10 (plen n) d11) 5 1 (plen n) ((padb n).map b8), .blk g5 134 ((hst (shamsg xs) k).map b32), .blk g4 132 (shaK.map b32), .blk g1 22 ((List.replicate 32 0#8).map b8), .rd A 1 n c (xs.map b8)] 15 15 #[false, false, false, false, false, false, false, false, false, false, false, false, false, false, false] hF kr kr ?_
   refine D_pure (i := 0) [0, 1, 2, 3, 4, 5, 6, 7] rfl kr rfl (pr_ixa (j := 7) (m' := 7) sd oM Tryz.underlying134 (z := 1) kr rfl rfl rfl) (.inr rfl) rfl rfl ?_
   refine D_pure (i := 2) [0, 1, 2, 3, 4, 5, 6, 7] rfl kr rfl (pr_move rfl rfl) (.inr rfl) rfl rfl ?_
   refine D_pure (i := 4) [0, 1, 2, 3, 4, 5, 6, 7] rfl kr rfl (pr_move rfl rfl) (.inr rfl) rfl rfl ?_
   refine D_pure (i := 6) [0, 1, 2, 3, 4, 5, 6, 7] rfl kr rfl (pr_move rfl rfl) (.inr rfl) rfl rfl ?_
   refine D_pure (i := 7) [0, 1, 2, 3, 4, 5, 6, 7] rfl kr rfl (pr_ixa (j := i) (m' := i) sd oM Tryz.underlying132 (z := 1) kr rfl rfl rfl) (.inr rfl) rfl rfl ?_
   refine D_pure (i := 10) [0, 1, 2, 3, 4, 5, 6, 7] rfl kr rfl (pr_move rfl rfl) (.inr rfl) rfl rfl ?_
   refine D_pure (i := 11) [0, 1, 2, 3, 4, 5, 6, 7] rfl kr rfl (pr_ixa (j := i) (m' := i) sd oM Tryz.underlying132 (z := 1) kr rfl rfl rfl) (.inr rfl) rfl rfl ?_
   refine D_take (i := 1) [0, 1, 2, 3, 4, 5, 6, 7] rfl kr rfl (ld_blk 0 rfl (get32 sd) Tryz.underlying61 rfl rfl rfl) rfl rfl rfl ?_
   refine D_pure (i := 3) [0, 1, 2, 3, 4, 5, 6, 7] rfl kr rfl (pr_add (add32 _ _) rfl rfl rfl) (.inr rfl) rfl rfl ?_
   refine D_pure (i := 5) [0, 1, 2, 3, 4, 5, 6, 7] rfl kr rfl (pr_add (add32 _ _) rfl rfl rfl) (.inr rfl) rfl rfl ?_
   refine D_take (i := 8) [0, 1, 2, 3, 4, 5, 6, 7] rfl kr rfl (ld_blk 5 rfl (get32 sd) Tryz.underlying61 rfl rfl rfl) rfl rfl rfl ?_
   refine D_pure (i := 9) [0, 1, 2, 3, 4, 5, 6, 7] rfl kr rfl (pr_add (add32 _ _) rfl rfl rfl) (.inr rfl) rfl rfl ?_
   refine D_take (i := 12) [0, 1, 2, 3, 4, 5, 6, 7] rfl kr rfl (ld_blk 1 rfl (get32 sd) Tryz.underlying61 rfl rfl rfl) rfl rfl rfl ?_
   refine D_pure (i := 13) [0, 1, 2, 3, 4, 5, 6, 7] rfl kr rfl (pr_add (add32 _ _) rfl rfl rfl) (.inr rfl) rfl rfl ?_
   refine D_pure (i := 14) [0, 1, 2, 3, 4, 5, 6, 7] rfl kr rfl (pr_assign rfl rfl) (.inr rfl) rfl rfl ?_
   refine D_done kr ?_
   refine T_seq ?_
   refine T_regD [.blk g26 134 ((rounds (hst (shamsg xs) k) (schw (List.take 64 (List.drop (64 * k) (shamsg xs))) 64) i).map b32), .blk g15 132 ((schw (List.take 64 (List.drop (64 * k) (shamsg xs))) 64).map b32), .row (.slice A12 (0 + n + (plen n)) C13) 5 1 (0 + n + (plen n)) ((xs ++ padb n).map b8), .row (.slice B10 (plen n) d11) 5 1 (plen n) ((padb n).map b8), .blk g5 134 ((hst (shamsg xs) k).map b32), .blk g4 132 (shaK.map b32), .blk g1 22 ((List.replicate 32 0#8).map b8), .rd A 1 n c (xs.map b8)] 12 12 #[false, false, false, false, false, false, false, false, false, false, false, false] hF kr kr ?_
   refine D_pure (i := 0) [0, 1, 2, 3, 4, 5, 6, 7] rfl kr rfl (pr_ixa (j := 0) (m' := 0) sd oM Tryz.underlying134 (z := 1) kr rfl rfl rfl) (.inr rfl) rfl rfl ?_
   refine D_pure (i := 3) [0, 1, 2, 3, 4, 5, 6, 7] rfl kr rfl (pr_ixa (j := 0) (m' := 0) sd oM Tryz.underlying134 (z := 1) kr rfl rfl rfl) (.inr rfl) rfl rfl ?_
   refine D_pure (i := 7) [0, 1, 2, 3, 4, 5, 6, 7] rfl kr rfl (pr_ixa (j := 0) (m' := 0) sd oM Tryz.underlying134 (z := 1) kr rfl rfl rfl) (.inr rfl) rfl rfl ?_
   refine D_take (i := 1) [0, 1, 2, 3, 4, 5, 6, 7] rfl kr rfl (ld_blk 0 rfl (get32 sd) Tryz.underlying61 rfl rfl rfl) rfl rfl rfl ?_
   refine D_take (i := 4) [0, 1, 2, 3, 4, 5, 6, 7] rfl kr rfl (ld_blk 0 rfl (get32 sd) Tryz.underlying61 rfl rfl rfl) rfl rfl rfl ?_
   refine D_take (i := 8) [0, 1, 2, 3, 4, 5, 6, 7] rfl kr rfl (ld_blk 0 rfl (get32 sd) Tryz.underlying61 rfl rfl rfl) rfl rfl rfl ?_
   refine D_one 2 _ rfl kr rfl (op_cn (fun w hw => turn_f (ath (rounds (hst (shamsg xs) k) (schw (List.take 64 (List.drop (64 * k) (shamsg xs))) 64) i) 0) 2 w (hok_nil w) sd sd) (enters_of Tryz.func105 kr rfl) rfl rfl rfl rfl rfl (fun t34 q35 => ?_))
   refine D_on [0, 1, 2, 3, 4, 5, 6, 7] rfl ?_
   refine D_one 5 _ rfl kr rfl (op_cn (fun w hw => turn_f (ath (rounds (hst (shamsg xs) k) (schw (List.take 64 (List.drop (64 * k) (shamsg xs))) 64) i) 0) 13 w (hok_nil w) sd sd) (enters_of Tryz.func105 kr rfl) rfl rfl rfl rfl rfl (fun t36 q37 => ?_))
   refine D_on [0, 1, 2, 3, 4, 5, 6, 7] rfl ?_
   refine D_pure (i := 6) [0, 1, 2, 3, 4, 5, 6, 7] rfl kr rfl (pr_xor (ib_xor32 _ _) rfl rfl rfl) (.inr rfl) rfl rfl ?_
   refine D_one 9 _ rfl kr rfl (op_cn (fun w hw => turn_f (ath (rounds (hst (shamsg xs) k) (schw (List.take 64 (List.drop (64 * k) (shamsg xs))) 64) i) 0) 22 w (hok_nil w) sd sd) (enters_of Tryz.func105 kr rfl) rfl rfl rfl rfl rfl (fun t38 q39 => ?_))
   refine D_on [0, 1, 2, 3, 4, 5, 6, 7] rfl ?_
   refine D_pure (i := 10) [0, 1, 2, 3, 4, 5, 6, 7] rfl kr rfl (pr_xor (ib_xor32 _ _) rfl rfl rfl) (.inr rfl) rfl rfl ?_
   refine D_pure (i := 11) [0, 1, 2, 3, 4, 5, 6, 7] rfl kr rfl (pr_assign rfl rfl) (.inr rfl) rfl rfl ?_
   refine D_done kr ?_
   refine lT ?_
   refine lO (pr_ixa (j := 0) (m' := 0) sd oM Tryz.underlying134 (z := 1) kr rfl rfl rfl) ?_
   refine lQ (ld_blk 0 rfl (get32 sd) Tryz.underlying61 rfl rfl rfl) ?_
   refine lO (pr_ixa (j := 1) (m' := 1) sd oM Tryz.underlying134 (z := 1) kr rfl rfl rfl) ?_
   refine lQ (ld_blk 0 rfl (get32 sd) Tryz.underlying61 rfl rfl rfl) ?_
   refine lO (pr_and (ib_and32 _ _) rfl rfl rfl) ?_
   refine lO (pr_ixa (j := 0) (m' := 0) sd oM Tryz.underlying134 (z := 1) kr rfl rfl rfl) ?_
   refine lQ (ld_blk 0 rfl (get32 sd) Tryz.underlying61 rfl rfl rfl) ?_
   refine lO (pr_ixa (j := 2) (m' := 2) sd oM Tryz.underlying134 (z := 1) kr rfl rfl rfl) ?_
   refine lQ (ld_blk 0 rfl (get32 sd) Tryz.underlying61 rfl rfl rfl) ?_
   refine lO (pr_and (ib_and32 _ _) rfl rfl rfl) ?_
   refine lO (pr_xor (ib_xor32 _ _) rfl rfl rfl) ?_
   refine lO (pr_ixa (j := 1) (m' := 1) sd oM Tryz.underlying134 (z := 1) kr rfl rfl rfl) ?_
   refine lQ (ld_blk 0 rfl (get32 sd) Tryz.underlying61 rfl rfl rfl) ?_
   refine lO (pr_ixa (j := 2) (m' := 2) sd oM Tryz.underlying134 (z := 1) kr rfl rfl rfl) ?_
   refine lQ (ld_blk 0 rfl (get32 sd) Tryz.underlying61 rfl rfl rfl) ?_
   refine lO (pr_and (ib_and32 _ _) rfl rfl rfl) ?_
   refine lO (pr_xor (ib_xor32 _ _) rfl rfl rfl) ?_
   refine lS ?_
   refine L_nil ?_
   refine lR ?_
   refine lM ?_
   refine lM ?_
   refine lO (pr_add (add32 _ _) rfl rfl rfl) ?_
   refine lM ?_
   refine lO (pr_add (add32 _ _) rfl rfl rfl) ?_
   refine lO (pr_ixa (j := 0) (m' := 0) sd oM Tryz.underlying134 (z := 1) kr rfl rfl rfl) ?_
   refine lQ (ld_blk 0 rfl (get32 sd) Tryz.underlying61 rfl rfl rfl) ?_
   refine lO (pr_ixa (j := 1) (m' := 1) sd oM Tryz.underlying134 (z := 1) kr rfl rfl rfl) ?_
   refine lQ (ld_blk 0 rfl (get32 sd) Tryz.underlying61 rfl rfl rfl) ?_
   refine lO (pr_ixa (j := 2) (m' := 2) sd oM Tryz.underlying134 (z := 1) kr rfl rfl rfl) ?_
   refine lQ (ld_blk 0 rfl (get32 sd) Tryz.underlying61 rfl rfl rfl) ?_
   refine lO (pr_ixa (j := 3) (m' := 3) sd oM Tryz.underlying134 (z := 1) kr rfl rfl rfl) ?_
   refine lQ (ld_blk 0 rfl (get32 sd) Tryz.underlying61 rfl rfl rfl) ?_
   refine lM ?_
   refine lO (pr_add (add32 _ _) rfl rfl rfl) ?_
   refine lO (pr_ixa (j := 4) (m' := 4) sd oM Tryz.underlying134 (z := 1) kr rfl rfl rfl) ?_
   refine lQ (ld_blk 0 rfl (get32 sd) Tryz.underlying61 rfl rfl rfl) ?_
   refine lO (pr_ixa (j := 5) (m' := 5) sd oM Tryz.underlying134 (z := 1) kr rfl rfl rfl) ?_
   refine lQ (ld_blk 0 rfl (get32 sd) Tryz.underlying61 rfl rfl rfl) ?_
   refine lO (pr_ixa (j := 6) (m' := 6) sd oM Tryz.underlying134 (z := 1) kr rfl rfl rfl) ?_
   refine lQ (ld_blk 0 rfl (get32 sd) Tryz.underlying61 rfl rfl rfl) ?_
   refine lO (pr_build (qs := [(0, (b32 (((((((ath (rounds (hst (shamsg xs) k) (schw (List.take 64 (List.drop (64 * k) (shamsg xs))) 64) i) 7) + (((ror32 (ath (rounds (hst (shamsg xs) k) (schw (List.take 64 (List.drop (64 * k) (shamsg xs))) 64) i) 4) 6) ^^^ (ror32 (ath (rounds (hst (shamsg xs) k) (schw (List.take 64 (List.drop (64 * k) (shamsg xs))) 64) i) 4) 11)) ^^^ (ror32 (ath (rounds (hst (shamsg xs) k) (schw (List.take 64 (List.drop (64 * k) (shamsg xs))) 64) i) 4) 25))) + (((ath (rounds (hst (shamsg xs) k) (schw (List.take 64 (List.drop (64 * k) (shamsg xs))) 64) i) 4) &&& (ath (rounds (hst (shamsg xs) k) (schw (List.take 64 (List.drop (64 * k) (shamsg xs))) 64) i) 5)) ^^^ ((~~~(ath (rounds (hst (shamsg xs) k) (schw (List.take 64 (List.drop (64 * k) (shamsg xs))) 64) i) 4)) &&& (ath (rounds (hst (shamsg xs) k) (schw (List.take 64 (List.drop (64 * k) (shamsg xs))) 64) i) 6)))) + (ath shaK i)) + (ath (schw (List.take 64 (List.drop (64 * k) (shamsg xs))) 64) i)) + (((ror32 (ath (rounds (hst (shamsg xs) k) (schw (List.take 64 (List.drop (64 * k) (shamsg xs))) 64) i) 0) 2) ^^^ (ror32 (ath (rounds (hst (shamsg xs) k) (schw (List.take 64 (List.drop (64 * k) (shamsg xs))) 64) i) 0) 13)) ^^^ (ror32 (ath (rounds (hst (shamsg xs) k) (schw (List.take 64 (List.drop (64 * k) (shamsg xs))) 64) i) 0) 22))) + ((((ath (rounds (hst (shamsg xs) k) (schw (List.take 64 (List.drop (64 * k) (shamsg xs))) 64) i) 0) &&& (ath (rounds (hst (shamsg xs) k) (schw (List.take 64 (List.drop (64 * k) (shamsg xs))) 64) i) 1)) ^^^ ((ath (rounds (hst (shamsg xs) k) (schw (List.take 64 (List.drop (64 * k) (shamsg xs))) 64) i) 0) &&& (ath (rounds (hst (shamsg xs) k) (schw (List.take 64 (List.drop (64 * k) (shamsg xs))) 64) i) 2))) ^^^ ((ath (rounds (hst (shamsg xs) k) (schw (List.take 64 (List.drop (64 * k) (shamsg xs))) 64) i) 1) &&& (ath (rounds (hst (shamsg xs) k) (schw (List.take 64 (List.drop (64 * k) (shamsg xs))) 64) i) 2)))))), (1, (b32 (ath (rounds (hst (shamsg xs) k) (schw (List.take 64 (List.drop (64 * k) (shamsg xs))) 64) i) 0))), (2, (b32 (ath (rounds (hst (shamsg xs) k) (schw (List.take 64 (List.drop (64 * k) (shamsg xs))) 64) i) 1))), (3, (b32 (ath (rounds (hst (shamsg xs) k) (schw (List.take 64 (List.drop (64 * k) (shamsg xs))) 64) i) 2))), (4, (b32 ((ath (rounds (hst (shamsg xs) k) (schw (List.take 64 (List.drop (64 * k) (shamsg xs))) 64) i) 3) + (((((ath (rounds (hst (shamsg xs) k) (schw (List.take 64 (List.drop (64 * k) (shamsg xs))) 64) i) 7) + (((ror32 (ath (rounds (hst (shamsg xs) k) (schw (List.take 64 (List.drop (64 * k) (shamsg xs))) 64) i) 4) 6) ^^^ (ror32 (ath (rounds (hst (shamsg xs) k) (schw (List.take 64 (List.drop (64 * k) (shamsg xs))) 64) i) 4) 11)) ^^^ (ror32 (ath (rounds (hst (shamsg xs) k) (schw (List.take 64 (List.drop (64 * k) (shamsg xs))) 64) i) 4) 25))) + (((ath (rounds (hst (shamsg xs) k) (schw (List.take 64 (List.drop (64 * k) (shamsg xs))) 64) i) 4) &&& (ath (rounds (hst (shamsg xs) k) (schw (List.take 64 (List.drop (64 * k) (shamsg xs))) 64) i) 5)) ^^^ ((~~~(ath (rounds (hst (shamsg xs) k) (schw (List.take 64 (List.drop (64 * k) (shamsg xs))) 64) i) 4)) &&& (ath (rounds (hst (shamsg xs) k) (schw (List.take 64 (List.drop (64 * k) (shamsg xs))) 64) i) 6)))) + (ath shaK i)) + (ath (schw (List.take 64 (List.drop (64 * k) (shamsg xs))) 64) i))))), (5, (b32 (ath (rounds (hst (shamsg xs) k) (schw (List.take 64 (List.drop (64 * k) (shamsg xs))) 64) i) 4))), (6, (b32 (ath (rounds (hst (shamsg xs) k) (schw (List.take 64 (List.drop (64 * k) (shamsg xs))) 64) i) 5))), (7, (b32 (ath (rounds (hst (shamsg xs) k) (schw (List.take 64 (List.drop (64 * k) (shamsg xs))) 64) i) 6)))]) (v := .agg [(b32 (((((((ath (rounds (hst (shamsg xs) k) (schw (List.take 64 (List.drop (64 * k) (shamsg xs))) 64) i) 7) + (((ror32 (ath (rounds (hst (shamsg xs) k) (schw (List.take 64 (List.drop (64 * k) (shamsg xs))) 64) i) 4) 6) ^^^ (ror32 (ath (rounds (hst (shamsg xs) k) (schw (List.take 64 (List.drop (64 * k) (shamsg xs))) 64) i) 4) 11)) ^^^ (ror32 (ath (rounds (hst (shamsg xs) k) (schw (List.take 64 (List.drop (64 * k) (shamsg xs))) 64) i) 4) 25))) + (((ath (rounds (hst (shamsg xs) k) (schw (List.take 64 (List.drop (64 * k) (shamsg xs))) 64) i) 4) &&& (ath (rounds (hst (shamsg xs) k) (schw (List.take 64 (List.drop (64 * k) (shamsg xs))) 64) i) 5)) ^^^ ((~~~(ath (rounds (hst (shamsg xs) k) (schw (List.take 64 (List.drop (64 * k) (shamsg xs))) 64) i) 4)) &&& (ath (rounds (hst (shamsg xs) k) (schw (List.take 64 (List.drop (64 * k) (shamsg xs))) 64) i) 6)))) + (ath shaK i)) + (ath (schw (List.take 64 (List.drop (64 * k) (shamsg xs))) 64) i)) + (((ror32 (ath (rounds (hst (shamsg xs) k) (schw (List.take 64 (List.drop (64 * k) (shamsg xs))) 64) i) 0) 2) ^^^ (ror32 (ath (rounds (hst (shamsg xs) k) (schw (List.take 64 (List.drop (64 * k) (shamsg xs))) 64) i) 0) 13)) ^^^ (ror32 (ath (rounds (hst (shamsg xs) k) (schw (List.take 64 (List.drop (64 * k) (shamsg xs))) 64) i) 0) 22))) + ((((ath (rounds (hst (shamsg xs) k) (schw (List.take 64 (List.drop (64 * k) (shamsg xs))) 64) i) 0) &&& (ath (rounds (hst (shamsg xs) k) (schw (List.take 64 (List.drop (64 * k) (shamsg xs))) 64) i) 1)) ^^^ ((ath (rounds (hst (shamsg xs) k) (schw (List.take 64 (List.drop (64 * k) (shamsg xs))) 64) i) 0) &&& (ath (rounds (hst (shamsg xs) k) (schw (List.take 64 (List.drop (64 * k) (shamsg xs))) 64) i) 2))) ^^^ ((ath (rounds (hst (shamsg xs) k) (schw (List.take 64 (List.drop (64 * k) (shamsg xs))) 64) i) 1) &&& (ath (rounds (hst (shamsg xs) k) (schw (List.take 64 (List.drop (64 * k) (shamsg xs))) 64) i) 2))))), (b32 (ath (rounds (hst (shamsg xs) k) (schw (List.take 64 (List.drop (64 * k) (shamsg xs))) 64) i) 0)), (b32 (ath (rounds (hst (shamsg xs) k) (schw (List.take 64 (List.drop (64 * k) (shamsg xs))) 64) i) 1)), (b32 (ath (rounds (hst (shamsg xs) k) (schw (List.take 64 (List.drop (64 * k) (shamsg xs))) 64) i) 2)), (b32 ((ath (rounds (hst (shamsg xs) k) (schw (List.take 64 (List.drop (64 * k) (shamsg xs))) 64) i) 3) + (((((ath (rounds (hst (shamsg xs) k) (schw (List.take 64 (List.drop (64 * k) (shamsg xs))) 64) i) 7) + (((ror32 (ath (rounds (hst (shamsg xs) k) (schw (List.take 64 (List.drop (64 * k) (shamsg xs))) 64) i) 4) 6) ^^^ (ror32 (ath (rounds (hst (shamsg xs) k) (schw (List.take 64 (List.drop (64 * k) (shamsg xs))) 64) i) 4) 11)) ^^^ (ror32 (ath (rounds (hst (shamsg xs) k) (schw (List.take 64 (List.drop (64 * k) (shamsg xs))) 64) i) 4) 25))) + (((ath (rounds (hst (shamsg xs) k) (schw (List.take 64 (List.drop (64 * k) (shamsg xs))) 64) i) 4) &&& (ath (rounds (hst (shamsg xs) k) (schw (List.take 64 (List.drop (64 * k) (shamsg xs))) 64) i) 5)) ^^^ ((~~~(ath (rounds (hst (shamsg xs) k) (schw (List.take 64 (List.drop (64 * k) (shamsg xs))) 64) i) 4)) &&& (ath (rounds (hst (shamsg xs) k) (schw (List.take 64 (List.drop (64 * k) (shamsg xs))) 64) i) 6)))) + (ath shaK i)) + (ath (schw (List.take 64 (List.drop (64 * k) (shamsg xs))) 64) i)))), (b32 (ath (rounds (hst (shamsg xs) k) (schw (List.take 64 (List.drop (64 * k) (shamsg xs))) 64) i) 4)), (b32 (ath (rounds (hst (shamsg xs) k) (schw (List.take 64 (List.drop (64 * k) (shamsg xs))) 64) i) 5)), (b32 (ath (rounds (hst (shamsg xs) k) (schw (List.take 64 (List.drop (64 * k) (shamsg xs))) 64) i) 6))].toArray) (fun _ => by kernel_rfl) rfl rfl) ?_
   refine L_op rfl (op_sto (n := 8) (vs := [(b32 (((((((ath (rounds (hst (shamsg xs) k) (schw (List.take 64 (List.drop (64 * k) (shamsg xs))) 64) i) 7) + (((ror32 (ath (rounds (hst (shamsg xs) k) (schw (List.take 64 (List.drop (64 * k) (shamsg xs))) 64) i) 4) 6) ^^^ (ror32 (ath (rounds (hst (shamsg xs) k) (schw (List.take 64 (List.drop (64 * k) (shamsg xs))) 64) i) 4) 11)) ^^^ (ror32 (ath (rounds (hst (shamsg xs) k) (schw (List.take 64 (List.drop (64 * k) (shamsg xs))) 64) i) 4) 25))) + (((ath (rounds (hst (shamsg xs) k) (schw (List.take 64 (List.drop (64 * k) (shamsg xs))) 64) i) 4) &&& (ath (rounds (hst (shamsg xs) k) (schw (List.take 64 (List.drop (64 * k) (shamsg xs))) 64) i) 5)) ^^^ ((~~~(ath (rounds (hst (shamsg xs) k) (schw (List.take 64 (List.drop (64 * k) (shamsg xs))) 64) i) 4)) &&& (ath (rounds (hst (shamsg xs) k) (schw (List.take 64 (List.drop (64 * k) (shamsg xs))) 64) i) 6)))) + (ath shaK i)) + (ath (schw (List.take 64 (List.drop (64 * k) (shamsg xs))) 64) i)) + (((ror32 (ath (rounds (hst (shamsg xs) k) (schw (List.take 64 (List.drop (64 * k) (shamsg xs))) 64) i) 0) 2) ^^^ (ror32 (ath (rounds (hst (shamsg xs) k) (schw (List.take 64 (List.drop (64 * k) (shamsg xs))) 64) i) 0) 13)) ^^^ (ror32 (ath (rounds (hst (shamsg xs) k) (schw (List.take 64 (List.drop (64 * k) (shamsg xs))) 64) i) 0) 22))) + ((((ath (rounds (hst (shamsg xs) k) (schw (List.take 64 (List.drop (64 * k) (shamsg xs))) 64) i) 0) &&& (ath (rounds (hst (shamsg xs) k) (schw (List.take 64 (List.drop (64 * k) (shamsg xs))) 64) i) 1)) ^^^ ((ath (rounds (hst (shamsg xs) k) (schw (List.take 64 (List.drop (64 * k) (shamsg xs))) 64) i) 0) &&& (ath (rounds (hst (shamsg xs) k) (schw (List.take 64 (List.drop (64 * k) (shamsg xs))) 64) i) 2))) ^^^ ((ath (rounds (hst (shamsg xs) k) (schw (List.take 64 (List.drop (64 * k) (shamsg xs))) 64) i) 1) &&& (ath (rounds (hst (shamsg xs) k) (schw (List.take 64 (List.drop (64 * k) (shamsg xs))) 64) i) 2))))), (b32 (ath (rounds (hst (shamsg xs) k) (schw (List.take 64 (List.drop (64 * k) (shamsg xs))) 64) i) 0)), (b32 (ath (rounds (hst (shamsg xs) k) (schw (List.take 64 (List.drop (64 * k) (shamsg xs))) 64) i) 1)), (b32 (ath (rounds (hst (shamsg xs) k) (schw (List.take 64 (List.drop (64 * k) (shamsg xs))) 64) i) 2)), (b32 ((ath (rounds (hst (shamsg xs) k) (schw (List.take 64 (List.drop (64 * k) (shamsg xs))) 64) i) 3) + (((((ath (rounds (hst (shamsg xs) k) (schw (List.take 64 (List.drop (64 * k) (shamsg xs))) 64) i) 7) + (((ror32 (ath (rounds (hst (shamsg xs) k) (schw (List.take 64 (List.drop (64 * k) (shamsg xs))) 64) i) 4) 6) ^^^ (ror32 (ath (rounds (hst (shamsg xs) k) (schw (List.take 64 (List.drop (64 * k) (shamsg xs))) 64) i) 4) 11)) ^^^ (ror32 (ath (rounds (hst (shamsg xs) k) (schw (List.take 64 (List.drop (64 * k) (shamsg xs))) 64) i) 4) 25))) + (((ath (rounds (hst (shamsg xs) k) (schw (List.take 64 (List.drop (64 * k) (shamsg xs))) 64) i) 4) &&& (ath (rounds (hst (shamsg xs) k) (schw (List.take 64 (List.drop (64 * k) (shamsg xs))) 64) i) 5)) ^^^ ((~~~(ath (rounds (hst (shamsg xs) k) (schw (List.take 64 (List.drop (64 * k) (shamsg xs))) 64) i) 4)) &&& (ath (rounds (hst (shamsg xs) k) (schw (List.take 64 (List.drop (64 * k) (shamsg xs))) 64) i) 6)))) + (ath shaK i)) + (ath (schw (List.take 64 (List.drop (64 * k) (shamsg xs))) 64) i)))), (b32 (ath (rounds (hst (shamsg xs) k) (schw (List.take 64 (List.drop (64 * k) (shamsg xs))) 64) i) 4)), (b32 (ath (rounds (hst (shamsg xs) k) (schw (List.take 64 (List.drop (64 * k) (shamsg xs))) 64) i) 5)), (b32 (ath (rounds (hst (shamsg xs) k) (schw (List.take 64 (List.drop (64 * k) (shamsg xs))) 64) i) 6))]) 0 rfl rfl kr (by simp [Value.oneCell']) sd kr rfl rfl rfl rfl ?_)
   refine L_nil ?_
   refine lR ?_
   refine lM ?_
   refine lO (pr_add (na_i64 (a := i) (b := 1) sd) rfl rfl rfl) ?_
   refine lS ?_
   refine L_nil ?_
   refine T_as 0 _ (.blk g26 134 ((rounds (hst (shamsg xs) k) (schw (List.take 64 (List.drop (64 * k) (shamsg xs))) 64) (i + 1)).map b32)) rfl (by rw [rounds_succ]; unfold rnd; simp only [BitVec.add_assoc]; rfl) ?_
   exact T_again (i + 1) pN pN (sc rfl (sc rfl (sc rfl (sc rfl (sc rfl (sc rfl (sc rfl (sc rfl sn)))))))) [0, 1, 2, 3, 4, 5, 6, 7] ⟨by decide, rfl⟩
  have hc_27 := of_decide_eq_false hc_27
  refine T_exit rfl ?_
  obtain rfl : 64 = i := by omega
  refine lT ?_
  refine lS ?_
  refine L_nil ?_
  refine T_block ?_
  refine T_as 4 _ (.blk g5 134 ((addt (hst (shamsg xs) k) (rounds (hst (shamsg xs) k) (schw (List.take 64 (List.drop (64 * k) (shamsg xs))) 64) 64) 0).map b32)) rfl (by rw [addt_zero]) ?_
  refine T_loop (T := Nat) (fun q => q ≤ 8) (fun q => [(2, (.pointer (some ⟨g1, 0, none⟩))), (3, (.pointer (some ⟨g4, 0, none⟩))), (4, (.pointer (some ⟨g5, 0, none⟩))), (5, (.slice A12 (0 + n + (plen n)) C13)), (6, (.int .i64 ((64 * k : Nat) : Int))), (14, (.pointer (some ⟨g26, 0, none⟩))), (21, (.int .i64 ((q : Nat) : Int)))]) (fun q => [.blk g26 134 ((rounds (hst (shamsg xs) k) (schw (List.take 64 (List.drop (64 * k) (shamsg xs))) 64) 64).map b32), .blk g15 132 ((schw (List.take 64 (List.drop (64 * k) (shamsg xs))) 64).map b32), .row (.slice A12 (0 + n + (plen n)) C13) 5 1 (0 + n + (plen n)) ((xs ++ padb n).map b8), .row (.slice B10 (plen n) d11) 5 1 (plen n) ((padb n).map b8), .blk g5 134 ((addt (hst (shamsg xs) k) (rounds (hst (shamsg xs) k) (schw (List.take 64 (List.drop (64 * k) (shamsg xs))) 64) 64) q).map b32), .blk g4 132 (shaK.map b32), .blk g1 22 ((List.replicate 32 0#8).map b8), .rd A 1 n c (xs.map b8)]) (fun q => 8 - q) 0 pN (sc rfl (sc rfl (sc rfl (sc rfl (sc rfl (sc rfl (sc rfl sn))))))) [1, 2, 3, 4, 0, 5, 6, 7] ⟨by decide, rfl⟩ ?_
  rintro q hp
  have hp : q ≤ 8 := hp
  have hak := addt_len (hst (shamsg xs) k) (rounds (hst (shamsg xs) k) (schw (List.take 64 (List.drop (64 * k) (shamsg xs))) 64) 64) q
  have hr64 := rounds_len (hst (shamsg xs) k) (schw (List.take 64 (List.drop (64 * k) (shamsg xs))) 64) hk8 64
  refine lE [(2, (.pointer (some ⟨g1, 0, none⟩))), (3, (.pointer (some ⟨g4, 0, none⟩))), (4, (.pointer (some ⟨g5, 0, none⟩))), (5, (.slice A12 (0 + n + (plen n)) C13)), (6, (.int .i64 ((64 * k : Nat) : Int))), (14, (.pointer (some ⟨g26, 0, none⟩))), (21, (.int .i64 ((q : Nat) : Int)))] ?_
  refine lH [0, 1, 2, 3, 4, 5, 6, 7] [.blk g26 134 ((rounds (hst (shamsg xs) k) (schw (List.take 64 (List.drop (64 * k) (shamsg xs))) 64) 64).map b32), .blk g15 132 ((schw (List.take 64 (List.drop (64 * k) (shamsg xs))) 64).map b32), .row (.slice A12 (0 + n + (plen n)) C13) 5 1 (0 + n + (plen n)) ((xs ++ padb n).map b8), .row (.slice B10 (plen n) d11) 5 1 (plen n) ((padb n).map b8), .blk g5 134 ((addt (hst (shamsg xs) k) (rounds (hst (shamsg xs) k) (schw (List.take 64 (List.drop (64 * k) (shamsg xs))) 64) 64) q).map b32), .blk g4 132 (shaK.map b32), .blk g1 22 ((List.replicate 32 0#8).map b8), .rd A 1 n c (xs.map b8)] ?_
  refine T_seq ?_
  refine lT ?_
  refine lM ?_
  refine lO (pr_cmp (bo := .lss) (nc_lt (a := q) (b := 8)) rfl rfl rfl rfl) ?_
  refine L_nil ?_
  refine T_cond (decide (q < 8)) rfl (fun hc_40 => ?_) (fun hc_40 => ?_)
  ·have hc_40 := of_decide_eq_true hc_40
   refine T_skip ?_
   refine T_seq ?_
   refine T_block ?_
   refine T_regD [.blk g26 134 ((rounds (hst (shamsg xs) k) (schw (List.take 64 (List.drop (64 * k) (shamsg xs))) 64) 64).map b32), .blk g15 132 ((schw (List.take 64 (List.drop (64 * k) (shamsg xs))) 64).map b32), .row (.slice A12 (0 + n + (plen n)) C13) 5 1 (0 + n + (plen n)) ((xs ++ padb n).map b8), .row (.slice B10 (plen n) d11) 5 1 (plen n) ((padb n).map b8), .blk g5 134 ((addt (hst (shamsg xs) k) (rounds (hst (shamsg xs) k) (schw (List.take 64 (List.drop (64 * k) (shamsg xs))) 64) 64) q).map b32), .blk g4 132 (shaK.map b32), .blk g1 22 ((List.replicate 32 0#8).map b8), .rd A 1 n c (xs.map b8)] 9 10 #[false, false, false, false, false, false, false, false, false, false] hF kr kr ?_
   refine D_pure (i := 0) [0, 1, 2, 3, 4, 5, 6, 7] rfl kr rfl (pr_move rfl rfl) (.inr rfl) rfl rfl ?_
   refine D_pure (i := 1) [0, 1, 2, 3, 4, 5, 6, 7] rfl kr rfl (pr_move rfl rfl) (.inr rfl) rfl rfl ?_
   refine D_pure (i := 2) [0, 1, 2, 3, 4, 5, 6, 7] rfl kr rfl (pr_ixa (j := q) (m' := q) sd oM Tryz.underlying134 (z := 1) kr rfl rfl rfl) (.inr rfl) rfl rfl ?_
   refine D_pure (i := 4) [0, 1, 2, 3, 4, 5, 6, 7] rfl kr rfl (pr_move rfl rfl) (.inr rfl) rfl rfl ?_
   refine D_pure (i := 5) [0, 1, 2, 3, 4, 5, 6, 7] rfl kr rfl (pr_ixa (j := q) (m' := q) sd oM Tryz.underlying134 (z := 1) kr rfl rfl rfl) (.inr rfl) rfl rfl ?_
   refine D_take (i := 3) [0, 1, 2, 3, 4, 5, 6, 7] rfl kr rfl (ld_blk 4 rfl (get32 sd) Tryz.underlying61 rfl rfl rfl) rfl rfl rfl ?_
   refine D_take (i := 6) [0, 1, 2, 3, 4, 5, 6, 7] rfl kr rfl (ld_blk 0 rfl (get32 sd) Tryz.underlying61 rfl rfl rfl) rfl rfl rfl ?_
   refine D_pure (i := 7) [0, 1, 2, 3, 4, 5, 6, 7] rfl kr rfl (pr_add (add32 _ _) rfl rfl rfl) (.inr rfl) rfl rfl ?_
   refine D_pure (i := 8) [0, 1, 2, 3, 4, 5, 6, 7] rfl kr rfl (pr_ixa (j := q) (m' := q) sd oM Tryz.underlying134 (z := 1) kr rfl rfl rfl) (.inr rfl) rfl rfl ?_
   refine D_one 9 _ rfl kr rfl (op_store (vs := [(b32 ((ath (addt (hst (shamsg xs) k) (rounds (hst (shamsg xs) k) (schw (List.take 64 (List.drop (64 * k) (shamsg xs))) 64) 64) q) q) + (ath (rounds (hst (shamsg xs) k) (schw (List.take 64 (List.drop (64 * k) (shamsg xs))) 64) 64) q)))]) (cs' := ((List.set (addt (hst (shamsg xs) k) (rounds (hst (shamsg xs) k) (schw (List.take 64 (List.drop (64 * k) (shamsg xs))) 64) 64) q) q ((ath (addt (hst (shamsg xs) k) (rounds (hst (shamsg xs) k) (schw (List.take 64 (List.drop (64 * k) (shamsg xs))) 64) 64) q) q) + (ath (rounds (hst (shamsg xs) k) (schw (List.take 64 (List.drop (64 * k) (shamsg xs))) 64) 64) q))).map b32)) 4 rfl rfl kr (one_one rfl) (stl sd) (splice_map (f := b32) sd) rfl rfl rfl rfl ?_)
   refine D_past kr ?_
   refine D_done kr ?_
   refine lR ?_
   refine lM ?_
   refine lO (pr_add (na_i64 (a := q) (b := 1) sd) rfl rfl rfl) ?_
   refine lS ?_
   refine L_nil ?_
   refine T_as 0 _ (.blk g5 134 ((addt (hst (shamsg xs) k) (rounds (hst (shamsg xs) k) (schw (List.take 64 (List.drop (64 * k) (shamsg xs))) 64) 64) (q + 1)).map b32)) rfl (by rw [addt_succ]) ?_
   exact T_again (q + 1) pN pN (sc rfl (sc rfl (sc rfl (sc rfl (sc rfl (sc rfl (sc rfl sn))))))) [1, 2, 3, 4, 0, 5, 6, 7] ⟨by decide, rfl⟩
  have hc_40 := of_decide_eq_false hc_40
  refine T_exit rfl ?_
  obtain rfl : 8 = q := by omega
  refine lR ?_
  refine lM ?_
  refine lO (pr_add (na_i64 (a := 64 * k) (b := 64) sd) rfl rfl rfl) ?_
  refine lS ?_
  refine L_nil ?_
  refine T_slot 6 (.int .i64 ((64 * k + 64 : Nat) : Int)) (.int .i64 ((64 * (k + 1) : Nat) : Int)) rfl (by congr 1 <;> omega) ?_
  refine T_as 4 _ (.blk g5 134 ((hst (shamsg xs) (k + 1)).map b32)) rfl (by rw [hst_succ, mixb_def]) ?_
  exact T_again (k + 1) pN pN (sc rfl (sc rfl (sc rfl (sc rfl (sc rfl sn))))) [3, 4, 0, 5, 6, 7] ⟨by decide, rfl⟩
 have hc_14 := of_decide_eq_false hc_14
 refine T_exit rfl ?_
 obtain rfl : ((n + plen n + 64 - 1) / 64) = k := by omega
 have hkE := hstl ((n + plen n + 64 - 1) / 64)
 refine lT ?_
 refine L_op rfl (op_alloc (z := .agg ((List.replicate 32 0#8).map b8).toArray) (zs := ((List.replicate 32 0#8).map b8)) kr rfl rfl rfl rfl (fun g41 => ?_))
 refine L_nil ?_
 refine T_seq ?_
 refine lT ?_
 refine lS ?_
 refine L_nil ?_
 refine T_block ?_
 refine T_as 0 _ (.blk g41 22 ((pre0 (shasum xs) 32 0).map b8)) rfl (by rw [← pre0_zero]) ?_
 refine T_loop (T := Nat) (fun j => j ≤ 32) (fun j => [(2, (.pointer (some ⟨g1, 0, none⟩))), (4, (.pointer (some ⟨g5, 0, none⟩))), (22, (.pointer (some ⟨g41, 0, none⟩))), (23, (.int .i64 ((j : Nat) : Int)))]) (fun j => [.blk g41 22 ((pre0 (shasum xs) 32 j).map b8), .row (.slice A12 (0 + n + (plen n)) C13) 5 1 (0 + n + (plen n)) ((xs ++ padb n).map b8), .row (.slice B10 (plen n) d11) 5 1 (plen n) ((padb n).map b8), .blk g5 134 ((hst (shamsg xs) ((n + plen n + 64 - 1) / 64)).map b32), .blk g4 132 (shaK.map b32), .blk g1 22 ((List.replicate 32 0#8).map b8), .rd A 1 n c (xs.map b8)]) (fun j => 32 - j) 0 pN (sc rfl (sc rfl (sc rfl (sc rfl sn)))) [0, 1, 2, 3, 4, 5, 6] ⟨by decide, rfl⟩ ?_
 rintro j hp
 have hp : j ≤ 32 := hp
 have hpj := pre0_len (shasum xs) 32 j hsl hp
 refine lE [(2, (.pointer (some ⟨g1, 0, none⟩))), (4, (.pointer (some ⟨g5, 0, none⟩))), (22, (.pointer (some ⟨g41, 0, none⟩))), (23, (.int .i64 ((j : Nat) : Int)))] ?_
 refine lH [0, 1, 2, 3, 4, 5, 6] [.blk g41 22 ((pre0 (shasum xs) 32 j).map b8), .row (.slice A12 (0 + n + (plen n)) C13) 5 1 (0 + n + (plen n)) ((xs ++ padb n).map b8), .row (.slice B10 (plen n) d11) 5 1 (plen n) ((padb n).map b8), .blk g5 134 ((hst (shamsg xs) ((n + plen n + 64 - 1) / 64)).map b32), .blk g4 132 (shaK.map b32), .blk g1 22 ((List.replicate 32 0#8).map b8), .rd A 1 n c (xs.map b8)] ?_
 refine T_seq ?_
 refine lT ?_
 refine lM ?_
 refine lO (pr_cmp (bo := .lss) (nc_lt (a := j) (b := 32)) rfl rfl rfl rfl) ?_
 refine L_nil ?_
 refine T_cond (decide (j < 32)) rfl (fun hc_42 => ?_) (fun hc_42 => ?_)
 ·have hc_42 := of_decide_eq_true hc_42
  refine T_skip ?_
  refine T_seq ?_
  refine T_block ?_
  refine lR ?_
  refine lM ?_
  refine lM ?_
  refine lO (pr_quo (a := j) (b := 4) sd sd rfl rfl rfl) ?_
  refine lO (pr_ixa (j := j / 4) (m' := j / 4) sd oM Tryz.underlying134 (z := 1) kr rfl rfl rfl) ?_
  refine lQ (ld_blk 3 rfl (get32 sd) Tryz.underlying61 rfl rfl rfl) ?_
  refine lM ?_
  refine lO (pr_rem (a := j) (b := 4) sd rfl rfl rfl) ?_
  refine lO (pr_mul (nm_i64 (a := 8) (b := j % 4) sd) rfl rfl rfl) ?_
  refine lO (pr_sub (ns_i64 (a := 24) (b := 8 * (j % 4)) sd sd) rfl rfl rfl) ?_
  refine lO (pr_cv (ni_u64 (a := 24 - (8 * (j % 4))) sd) Tryz.underlying3 Tryz.underlying39 rfl rfl) ?_
  refine lO (pr_shift (sh_shr32 (ath (hst (shamsg xs) ((n + plen n + 64 - 1) / 64)) (j / 4)) _ (24 - (8 * (j % 4)))) rfl rfl rfl rfl) ?_
  refine lO (pr_cv (cv32_8 _) Tryz.underlying61 Tryz.underlying5 rfl rfl) ?_
  refine lO (pr_ixa (j := j) (m' := j) sd oM Tryz.underlying22 (z := 1) kr rfl rfl rfl) ?_
  refine L_op rfl (op_store (vs := [(b8 (((ath (hst (shamsg xs) ((n + plen n + 64 - 1) / 64)) (j / 4)) >>> (24 - (8 * (j % 4)))).setWidth 8))]) (cs' := ((List.set (pre0 (shasum xs) 32 j) j (((ath (hst (shamsg xs) ((n + plen n + 64 - 1) / 64)) (j / 4)) >>> (24 - (8 * (j % 4)))).setWidth 8)).map b8)) 0 rfl rfl kr (one_one rfl) (stl sd) (splice_map (f := b8) sd) rfl rfl rfl rfl ?_)
  refine L_nil ?_
  refine lR ?_
  refine lM ?_
  refine lO (pr_add (na_i64 (a := j) (b := 1) sd) rfl rfl rfl) ?_
  refine lS ?_
  refine L_nil ?_
  refine T_as 0 _ (.blk g41 22 ((pre0 (shasum xs) 32 (j + 1)).map b8)) rfl (by rw [sumout_set _ _ hso hsl j oM]) ?_
  exact T_again (j + 1) pN pN (sc rfl (sc rfl (sc rfl (sc rfl sn)))) [0, 1, 2, 3, 4, 5, 6] ⟨by decide, rfl⟩
 have hc_42 := of_decide_eq_false hc_42
 refine T_exit rfl ?_
 obtain rfl : 32 = j := by omega
 refine lT ?_
 refine lQ (ld_agg (ds := ((pre0 (shasum xs) 32 32).map b8)) 0 rfl agg_all Tryz.underlying22 rfl (fwz (n := 32) kr sd) rfl rfl) ?_
 refine L_op rfl (op_sto (n := 32) (vs := ((pre0 (shasum xs) 32 32).map b8)) 5 rfl rfl kr (all8_one _) kr sd rfl rfl rfl rfl ?_)
 refine L_nil ?_
 refine T_ret ?_
 refine T_as 0 _ (.blk g1 22 ((shasum xs).map b8)) rfl (by rw [pre0_all _ _ hsl]) ?_
 exact T_fin () qN (resb 0 rfl rfl rfl Tryz.underlying22 rfl (fwz (n := 32) kr sd)) [] ⟨by decide, rfl⟩ rfl
end Go.Proofs.YtlplpmkdebemnaaGreat
namespace Go.Proofs.YtlplpmkdebemnaaGreat
open Bv Fw
theorem ath_range (f : Nat → BitVec 8) (n j : Nat) (h : j < n) : ath ((List.range n).map f) j = f j := by
  rw [ath_get _ _ (by simpa using h)]; simp
theorem ath_out (xs : List (BitVec 8)) (j : Nat) (h : xs.length ≤ j) : ath xs j = 0#8 := by
  simp [ath, List.getD_eq_getElem?_getD, h]
theorem ath_rep0 (n j : Nat) : ath (List.replicate n 0#8) j = 0#8 := by
  unfold ath
  rw [List.getD_eq_getElem?_getD, List.getElem?_replicate]
  split <;> rfl
def htn (k : List (BitVec 8)) (x : BitVec 8) (i : Nat) : List (BitVec 8) := (List.range 64).map fun j => if j < i then ath k j ^^^ x else ath k j
def hpad (k : List (BitVec 8)) (x : BitVec 8) : List (BitVec 8) := (List.range 64).map fun j => ath k j ^^^ x
theorem htn_len (k : List (BitVec 8)) (x : BitVec 8) (i : Nat) : (htn k x i).length = 64 := by simp [htn]
theorem hpad_len (k : List (BitVec 8)) (x : BitVec 8) : (hpad k x).length = 64 := by simp [hpad]
theorem hpad_at (k : List (BitVec 8)) (x : BitVec 8) (j : Nat) (h : j < 64) : ath (hpad k x) j = ath k j ^^^ x := ath_range _ _ _ h
theorem htn_at (k : List (BitVec 8)) (x : BitVec 8) (i j : Nat) (h : j < 64) : ath (htn k x i) j = if j < i then ath k j ^^^ x else ath k j := ath_range _ _ _ h
theorem htn_all (k : List (BitVec 8)) (x : BitVec 8) : htn k x 64 = hpad k x := by
  refine ext_ath (by rw [htn_len, hpad_len]) (fun j hj => ?_)
  rw [htn_len] at hj
  rw [htn_at _ _ _ _ hj, hpad_at _ _ _ hj, if_pos hj]
theorem htn_set (k : List (BitVec 8)) (x : BitVec 8) (i : Nat) (h : i < 64) : (htn k x i).set i (ath (htn k x i) i ^^^ x) = htn k x (i + 1) := by
  refine ext_ath (by simp [htn_len]) (fun j hj => ?_)
  rw [List.length_set, htn_len] at hj
  rw [ath_set _ _ _ _ (by rw [htn_len]; exact h), htn_at _ _ _ _ hj, htn_at _ _ _ _ hj, htn_at _ _ _ _ h]
  by_cases e : i = j
  · subst e; simp
  · rw [if_neg e]
    by_cases e2 : j < i
    · rw [if_pos e2, if_pos oM]
    · rw [if_neg e2, if_neg oM]
theorem htn_zero (k : List (BitVec 8)) (x : BitVec 8) (n m : Nat) (hk : k.length = n) (hn : n ≤ 64) (hm : m = n) : cop (List.replicate 64 0#8) 0 k m = htn k x 0 := by
  subst hm
  have e : cop (List.replicate 64 0#8) 0 k m = k ++ List.replicate (64 - m) 0#8 := by
    unfold cop
    rw [List.take_of_length_le (l := k) oM, hk, List.drop_replicate]
    simp only [List.take_zero, List.nil_append, Nat.zero_add]
  rw [e]
  refine ext_ath (by simp [htn_len]; omega) (fun j hj => ?_)
  have hj2 : j < 64 := by simp at hj; omega
  rw [htn_at _ _ _ _ hj2, if_neg oM]
  by_cases h : j < k.length
  · rw [ath_app_l _ _ _ h]
  · rw [ath_app_r _ _ _ oM, ath_out k j oM]
    exact ath_rep0 _ _
theorem hpre_set (k : List (BitVec 8)) (x c : BitVec 8) (i : Nat) (h : i < 64) (hc : c = ath k i) : (pre0 (hpad k x) 64 i).set i (c ^^^ x) = pre0 (hpad k x) 64 (i + 1) :=
  pre0_set _ _ _ (hpad_len k x) h _ (by rw [hpad_at _ _ _ h, hc])
def mackey (k : List (BitVec 8)) : List (BitVec 8) := if 64 < k.length then shasum k else k
def mactag (k t : List (BitVec 8)) : List (BitVec 8) := shasum (hpad (mackey k) 0x5c#8 ++ shasum (hpad (mackey k) 0x36#8 ++ t))
theorem mactag_len (k t : List (BitVec 8)) : (mactag k t).length = 32 := shasum_len _
theorem mactag_long (k t : List (BitVec 8)) (h : 64 < k.length) : shasum (hpad (shasum k) 0x5c#8 ++ shasum (hpad (shasum k) 0x36#8 ++ t)) = mactag k t := by unfold mactag mackey; rw [if_pos h]
theorem mactag_short (k t : List (BitVec 8)) (h : ¬ 64 < k.length) : shasum (hpad k 0x5c#8 ++ shasum (hpad k 0x36#8 ++ t)) = mactag k t := by unfold mactag mackey; rw [if_neg h]
attribute [irreducible] htn hpad mactag mackey
end Go.Proofs.YtlplpmkdebemnaaGreat
namespace Go.Proofs.YtlplpmkdebemnaaGreat
set_option maxRecDepth 100000
open Go.RowKit Bv Fw
theorem pat_opt (Q : List Pt) (k : Nat) (h : k < Q.length) : Q[k]?.toList = [pat Q k] := by unfold pat; rw [List.getD_eq_getElem?_getD, List.getElem?_eq_getElem h]; rfl
set_option maxHeartbeats 4000000 in
theorem values_seq (Q : List Pt) (A : Option Addr) (n : Nat) (c : Nat) (g1 : Nat) (hq : Q.length = n) (hn : n ≤ 100000000000000) : SeqC (Θ := Unit) Tryz.prog 110 [(.pointer (some ⟨g1, 0, none⟩))] [.rd (some ⟨g1, 0, none⟩) 1 1 1 [(.slice A n c)], .rd A 1 n c (Q.map Pt.sl), .all Q] n (fun k _ => [(.slice ((pat Q k).A) ((pat Q k).n) ((pat Q k).c))]) (fun k _ => [.rd ((pat Q k).A) 1 ((pat Q k).n) ((pat Q k).c) (((pat Q k).xs).map b8)]) := by
 have hF : Wid Fence.wide := wid_wide
 refine enter_seq (c := _) Tryz.func110 rfl (by rw [Tryz.ntmps110]; rfl) rfl ?_
 intro l J Jx W O R hsJ hsX hy hend
 rw [Tryz.ntmps110]
 refine lE [(0, (.func (.yield l) #[] #[])), (1, (.pointer (some ⟨g1, 0, none⟩)))] ?_
 refine lH [0, 1, 2, 3] [.inv W.heap.size O R (J 0 O R), .rd (some ⟨g1, 0, none⟩) 1 1 1 [(.slice A n c)], .rd A 1 n c (Q.map Pt.sl), .all Q] ?_
 refine lT ?_
 refine lQ (ld_rdb (src_rd 1 rfl) rfl Tryz.underlying85 rfl rfl rfl) ?_
 refine lO (pr_len_sl Tryz.underlying85 rfl rfl) ?_
 refine lM ?_
 refine L_nil ?_
 refine T_block ?_
 refine T_loop (T := Nat × List Nat × List Nat) (fun ⟨k, O, R⟩ => k ≤ n) (fun ⟨k, O, R⟩ => [(0, (.func (.yield l) #[] #[])), (5, (.slice A n c)), (6, (.int .i64 ((n : Nat) : Int))), (7, (.int .i64 ((k : Nat) : Int)))]) (fun ⟨k, O, R⟩ => [.inv W.heap.size O R (J k O R), .rd (some ⟨g1, 0, none⟩) 1 1 1 [(.slice A n c)], .rd A 1 n c (Q.map Pt.sl), .all Q]) (fun ⟨k, O, R⟩ => n - k) (0, O, R) pN (sc rfl (sc rfl (sc rfl (sc rfl sn)))) [0, 1, 2, 3] ⟨by decide, rfl⟩ ?_
 rintro ⟨k, O, R⟩ hp
 have hp : k ≤ n := hp
 refine lE [(0, (.func (.yield l) #[] #[])), (5, (.slice A n c)), (6, (.int .i64 ((n : Nat) : Int))), (7, (.int .i64 ((k : Nat) : Int)))] ?_
 refine lH [0, 1, 2, 3] [.inv W.heap.size O R (J k O R), .rd (some ⟨g1, 0, none⟩) 1 1 1 [(.slice A n c)], .rd A 1 n c (Q.map Pt.sl), .all Q] ?_
 refine lT ?_
 refine lO (pr_cmp (bo := .lss) (nc_lt (a := k) (b := n)) rfl rfl rfl rfl) ?_
 refine L_nil ?_
 refine T_seq ?_
 refine T_cond (decide (k < n)) rfl (fun hc_1 => ?_) (fun hc_1 => ?_)
 ·have hc_1 := of_decide_eq_true hc_1
  refine T_skip ?_
  refine T_seq ?_
  refine T_block ?_
  refine lT ?_
  refine lO (pr_ixs1 (j := k) (src_none (src_rd 2 rfl)) sd Tryz.underlying85 kr rfl rfl rfl) ?_
  refine lQ (ld_src (m := k) (src_rd 2 rfl) (pat_get sd) Tryz.underlying27 rfl rfl rfl) ?_
  refine T_ofall 3 rfl (pat_mem (L := Q) (j := k) sd) (fun hl_2 hm_3 => ?_)
  refine lS ?_
  refine L_nil ?_
  refine T_seq ?_
  refine T_regI ?_
  refine LI_opP hF rfl rfl (op_pr (pr_move rfl rfl) rfl rfl ?_)
  refine LI_opP hF rfl rfl (op_pr (pr_move rfl rfl) rfl rfl ?_)
  refine LI_op rfl (op_yield (k := k) () hy sd hsJ hsX 1 rfl [0] rfl rfl rfl rfl rfl rfl rfl rfl rfl (fun _ => trivial) (fun O4 R5 => ?_) (fun O6 R7 => ?_))
  ·refine LI_opP hF rfl rfl (op_pr (pr_un (v := .bool false) rfl rfl rfl) rfl rfl ?_)
   refine LI_nil ?_
   refine T_cond_f rfl ?_
   refine T_skip ?_
   refine lR ?_
   refine lO (pr_add (na_i64 (a := k) (b := 1) sd) rfl rfl rfl) ?_
   refine lM ?_
   refine L_nil ?_
   exact T_again (k + 1, O4, R5) pN pN (sc rfl (sc rfl (sc rfl (sc rfl sn)))) [0, 2, 3, 4] ⟨by decide, rfl⟩
  refine LI_opP hF rfl rfl (op_pr (pr_un (v := .bool true) rfl rfl rfl) rfl rfl ?_)
  refine LI_nil ?_
  refine T_cond_t rfl ?_
  refine T_ret ?_
  exact T_finX rfl rfl 0 rfl
 have hc_1 := of_decide_eq_false hc_1
 refine T_exit rfl ?_
 obtain rfl : k = n := by omega
 exact T_finJ rfl rfl 0 rfl
set_option maxHeartbeats 4000000 in
theorem values_f (A : Option Addr) (n : Nat) (c : Nat) (w : World) (hO : HOK [] w)  : Calls Tryz.prog 101 [(.slice A n c)].toArray w (Ret (T := Nat) [] w (fun g1 => True) (fun g1 => (.func (.func 110) #[] [(.pointer (some ⟨g1, 0, none⟩))].toArray)) (fun g1 => [.old (some ⟨g1, 0, none⟩) 1 1 1 [(.slice A n c)]])) := by
 refine enter (c := _) Tryz.func101 rfl [] _ [] (by rw [Tryz.ntmps101]; rfl) (own_rds hO rfl) ?_
 rw [Tryz.ntmps101]
 refine lE [(0, (.slice A n c))] ?_
 refine lH [] [] ?_
 refine lT ?_
 refine L_op rfl (op_box (zs := [(.slice A n c)]) rfl rfl rfl rfl rfl (fun g1 => ?_))
 refine lS ?_
 refine lN ?_
 refine lO (pr_mkfn (us := []) (vs := [(.pointer (some ⟨g1, 0, none⟩))]) rfl rfl rfl) ?_
 refine lS ?_
 refine L_nil ?_
 refine T_ret ?_
 refine T_oldb 0 (zs := [(.slice A n c)]) 0 1 1 1 rfl rfl rfl sd sd ?_
 exact T_fin g1 qN (res1 rfl rfl) [0] ⟨by decide, rfl⟩ rfl
set_option maxHeartbeats 4000000 in
theorem turned_f (k : List (BitVec 8)) (x : BitVec 8) (A : Option Addr) (n : Nat) (c : Nat) (w : World) (hO : HOK [.rd A 1 n c (k.map b8)] w) (hk : k.length = n) (hn : n ≤ 64) : Calls Tryz.prog 100 [(.slice A n c), (b8 x)].toArray w (Ret (T := Option Addr) [] w (fun B => True) (fun B => (.slice B 64 64)) (fun B => [.old B 1 64 64 ((hpad k x).map b8)])) := by
 have hpl := hpad_len k x
 refine enter (c := _) Tryz.func100 rfl [] _ [.rd A 1 n c (k.map b8)] (by rw [Tryz.ntmps100]; rfl) (own_rds hO rfl) ?_
 rw [Tryz.ntmps100]
 refine lE [(0, (.slice A n c)), (1, (b8 x))] ?_
 refine lH [0] [.rd A 1 n c (k.map b8)] ?_
 refine lT ?_
 refine lS ?_
 refine lN ?_
 refine L_op rfl (op_make (z := (b8 (0#8))) (n := 64) (c := 64) Tryz.underlying27 (bytes := 1) kr rfl sd sd sd rfl rfl rfl rfl rfl (fun g1 => ?_))
 refine T_as 0 _ (.blk g1 5 ((List.replicate 64 0#8).map b8)) rfl (by rw [List.map_replicate]) ?_
 refine lS ?_
 refine lN ?_
 refine lM ?_
 refine lM ?_
 refine L_op rfl (op_copy (cs' := ((cop (List.replicate 64 0#8) 0 k (min n 64)).map b8)) 0 rfl Tryz.underlying27 kr (src_rd 1 rfl) (all8_one _) sd (cop_map _ _ _ _) rfl rfl rfl rfl rfl ?_)
 refine L_nil ?_
 refine T_seq ?_
 refine lT ?_
 refine lM ?_
 refine lO (pr_len_sl Tryz.underlying27 rfl rfl) ?_
 refine lM ?_
 refine L_nil ?_
 refine T_block ?_
 refine T_as 0 _ (.blk g1 5 ((htn k x 0).map b8)) rfl (by rw [htn_zero k x n _ hk hn oM]) ?_
 refine T_loop (T := Nat) (fun i => i ≤ 64) (fun i => [(1, (b8 x)), (5, (.slice (some ⟨g1, 0, none⟩) 64 64)), (12, (.int .i64 ((64 : Nat) : Int))), (13, (.int .i64 ((i : Nat) : Int)))]) (fun i => [.blk g1 5 ((htn k x i).map b8), .rd A 1 n c (k.map b8)]) (fun i => 64 - i) 0 pN (sc rfl (sc rfl (sc rfl (sc rfl sn)))) [0, 1] ⟨by decide, rfl⟩ ?_
 rintro i hp
 have hp : i ≤ 64 := hp
 have hhl := htn_len k x i
 refine lE [(1, (b8 x)), (5, (.slice (some ⟨g1, 0, none⟩) 64 64)), (12, (.int .i64 ((64 : Nat) : Int))), (13, (.int .i64 ((i : Nat) : Int)))] ?_
 refine lH [0, 1] [.blk g1 5 ((htn k x i).map b8), .rd A 1 n c (k.map b8)] ?_
 refine lT ?_
 refine lO (pr_cmp (bo := .lss) (nc_lt (a := i) (b := 64)) rfl rfl rfl rfl) ?_
 refine L_nil ?_
 refine T_seq ?_
 refine T_cond (decide (i < 64)) rfl (fun hc_2 => ?_) (fun hc_2 => ?_)
 ·have hc_2 := of_decide_eq_true hc_2
  refine T_skip ?_
  refine T_seq ?_
  refine T_block ?_
  refine lT ?_
  refine lM ?_
  refine lS ?_
  refine L_nil ?_
  refine lR ?_
  refine lM ?_
  refine lM ?_
  refine lO (pr_ixb (j := i) (m' := i) sd oM Tryz.underlying27 (z := 1) kr rfl rfl rfl) ?_
  refine lQ (ld_blk 0 rfl (get8 sd) Tryz.underlying5 rfl rfl rfl) ?_
  refine lM ?_
  refine lO (pr_xor (ib_xor8 _ _) rfl rfl rfl) ?_
  refine lO (pr_ixb (j := i) (m' := i) sd oM Tryz.underlying27 (z := 1) kr rfl rfl rfl) ?_
  refine L_op rfl (op_store (vs := [(b8 ((ath (htn k x i) i) ^^^ x))]) (cs' := ((List.set (htn k x i) i ((ath (htn k x i) i) ^^^ x)).map b8)) 0 rfl rfl kr (one_one rfl) (stl sd) (splice_map (f := b8) sd) rfl rfl rfl rfl ?_)
  refine L_nil ?_
  refine lR ?_
  refine lO (pr_add (na_i64 (a := i) (b := 1) sd) rfl rfl rfl) ?_
  refine lM ?_
  refine L_nil ?_
  refine T_as 0 _ (.blk g1 5 ((htn k x (i + 1)).map b8)) rfl (by rw [htn_set k x i oM]) ?_
  exact T_again (i + 1) pN pN (sc rfl (sc rfl (sc rfl (sc rfl sn)))) [0, 1] ⟨by decide, rfl⟩
 have hc_2 := of_decide_eq_false hc_2
 refine T_exit rfl ?_
 obtain rfl : 64 = i := by omega
 refine lT ?_
 refine lM ?_
 refine lS ?_
 refine L_nil ?_
 refine T_ret ?_
 refine T_oldb 0 (zs := ((hpad k x).map b8)) 0 1 64 64 rfl sd (by rw [htn_all, List.drop_zero, List.take_of_length_le (by simp; omega)]) sd sd ?_
 exact T_fin (some ⟨g1, 0, none⟩) qN (res1 rfl rfl) [0] ⟨by decide, rfl⟩ rfl
theorem catp_app (L M : List Pt) : catp (L ++ M) = catp L ++ catp M := by simp [catp]
set_option maxHeartbeats 4000000 in
theorem tag_s_f (xs : List (BitVec 8)) (A : Option Addr) (n : Nat) (c : Nat) (Q : List Pt) (B : Option Addr) (nq : Nat) (d : Nat) (w : World) (hO : HOK [.rd A 1 n c (xs.map b8), .rd B 1 nq d (Q.map Pt.sl), .all Q] w) (hx : xs.length = n) (hn : n ≤ 64) (hQ : Q.length = nq) (hm : nq ≤ 100000000) (hs : (catp Q).length ≤ 900000000) : Calls Tryz.prog 91 [(.slice A n c), (.slice B nq d)].toArray w (Ret (T := Unit) [] w (fun _ => True) (fun _ => (.agg ((mactag xs (catp Q)).map b8).toArray)) (fun _ => [])) := by
 have hsl := shasum_len xs
 have hs1 := shasum_len (hpad xs 54#8 ++ catp Q)
 have hs2 := shasum_len (hpad xs 92#8 ++ (shasum (hpad xs 54#8 ++ catp Q)))
 have hp1 := hpad_len xs 54#8
 have hp2 := hpad_len xs 92#8
 have hml := mactag_len xs (catp Q)
 have hcl : (catp ([Pt.mk none 0 0 (hpad xs 54#8)] ++ Q)).length = 64 + (catp Q).length := by rw [catp_app, List.length_append, catp_cons, catp_nil, List.append_nil, hp1]
 have hF : Wid Fence.wide := wid_wide
 refine enter_m (c := _) Tryz.func91 rfl [] _ [.rd A 1 n c (xs.map b8), .rd B 1 nq d (Q.map Pt.sl), .all Q] (by rw [Tryz.ntmps91]; rfl) (own_rds hO rfl) ?_
 rw [Tryz.ntmps91]
 refine lE [(0, (.slice A n c)), (1, (.slice B nq d))] ?_
 refine lH [0, 1, 2] [.rd A 1 n c (xs.map b8), .rd B 1 nq d (Q.map Pt.sl), .all Q] ?_
 refine lT ?_
 refine L_op rfl (op_alloc (z := .agg ((List.replicate 32 0#8).map b8).toArray) (zs := ((List.replicate 32 0#8).map b8)) kr rfl rfl rfl rfl (fun g1 => ?_))
 refine L_nil ?_
 refine T_seq ?_
 refine lT ?_
 refine lM ?_
 refine lO (pr_len_sl Tryz.underlying27 rfl rfl) ?_
 refine lO (pr_cmp (bo := .gtr) (nc_lt (a := 64) (b := n)) rfl rfl rfl rfl) ?_
 refine L_nil ?_
 refine T_cond_no (t := decide (64 < n)) rfl (by simp; omega) ?_
 refine T_skip ?_
 refine lT ?_
 refine lM ?_
 refine L_op rfl (op_cn (fun w hw => turned_f xs (54#8) A n c w (hok_cons ((src_rd 1 rfl) w hw) (hok_nil w)) sd sd) (enters_of Tryz.func100 kr rfl) rfl rfl rfl rfl rfl (fun t2 q3 => ?_))
 obtain ⟨B4, eB4⟩ : ∃ x, x = t2 := ⟨_, rfl⟩
 subst eB4
 refine L_op rfl (op_bslice (e := 27) (zs := [(.slice B4 64 64)]) (qs := [(0, (.slice B4 64 64))]) (fun _ => by kernel_rfl) rfl rfl rfl rfl (fun g5 => ?_))
 refine L_op rfl (op_alloc (z := (.slice none 0 0)) (zs := [(.slice none 0 0)]) kr rfl rfl rfl rfl (fun g6 => ?_))
 refine L_op rfl (op_store (vs := [(.slice (some ⟨g5, 0, none⟩) 1 1)]) (cs' := [(.slice (some ⟨g5, 0, none⟩) 1 1)]) 0 rfl rfl kr (one_one rfl) (by simp) rfl rfl rfl rfl rfl ?_)
 refine L_nil ?_
 refine T_seq ?_
 refine lT ?_
 refine lM ?_
 refine L_op rfl (op_cn (fun w hw => values_f B nq d w (hok_nil w) ) (enters_of Tryz.func101 kr rfl) rfl rfl rfl rfl rfl (fun t7 q8 => ?_))
 obtain ⟨g1_9, eg1_9⟩ : ∃ x, x = t7 := ⟨_, rfl⟩
 subst eg1_9
 refine L_nil ?_
 refine T_block ?_
 refine T_tord 0 rfl ?_
 refine T_tord 3 rfl ?_
 refine T_as 2 _ (.blk g6 85 [(.slice (some ⟨g5, 0, none⟩) (1 + 0) 1)]) rfl (by rfl) ?_
 refine T_rowb 3 (zs := (([(Pt.mk B4 64 64 (hpad xs (54#8)))] ++ List.take 0 Q).map Pt.sl)) 1 (1 + 0) 1 rfl sd sd rfl (rfl) ?_
 refine T_range (Θ := Unit) (T := Option Addr × Nat) (Tx := Unit) (cap := [(.pointer (some ⟨g1_9, 0, none⟩))]) (ps := [21]) (values_seq Q B nq d g1_9 sd sd) rfl (enters_of Tryz.func110 kr rfl) (fun k ⟨A1, c1⟩ => k ≤ nq) (fun k ⟨A1, c1⟩ => [.rd B4 1 64 64 ((hpad xs (54#8)).map b8), .rd (some ⟨g1_9, 0, none⟩) 1 1 1 [(.slice B nq d)], .blk g6 85 [(.slice A1 (1 + k) c1)], .row (.slice A1 (1 + k) c1) 27 1 (1 + k) (([(Pt.mk B4 64 64 (hpad xs (54#8)))] ++ List.take k Q).map Pt.sl), .blk g1 22 ((List.replicate 32 0#8).map b8), .rd A 1 n c (xs.map b8), .rd B 1 nq d (Q.map Pt.sl), .all Q]) (fun _ => False) (fun _ => []) 0 (some ⟨g5, 0, none⟩, 1) pN [2, 3, 1, 0, 4, 5, 6, 7] ⟨by decide, rfl⟩ [3, 6, 7] rfl rfl (fun _ _ => rfl) (fun _ => rfl) (fun _ _ => rfl) (fun _ _ => rfl) rfl (fun _ => trivial) ?_ ?_ ?_
 ·intro C2 w2 lo2 rs2 l D m k t th rc hrec hk hp
  obtain ⟨A1, c1⟩ := t
  have hp : k ≤ nq := hp
  have hk : k < nq := hk
  have hF : Wid (Fence.wide.inRound l) := wid_round l
  refine lE [(6, (.pointer (some ⟨g6, 0, none⟩))), (21, (.slice ((pat Q k).A) ((pat Q k).n) ((pat Q k).c)))] ?_
  refine lH [0, 1, 2, 3, 4, 5, 6, 7, 8, 9, 10] [.rd ((pat Q k).A) 1 ((pat Q k).n) ((pat Q k).c) (((pat Q k).xs).map b8), .obj l (.loop rc), .obj D (.deferred (some [])), .rd B4 1 64 64 ((hpad xs (54#8)).map b8), .rd (some ⟨g1_9, 0, none⟩) 1 1 1 [(.slice B nq d)], .blk g6 85 [(.slice A1 (1 + k) c1)], .row (.slice A1 (1 + k) c1) 27 1 (1 + k) (([(Pt.mk B4 64 64 (hpad xs (54#8)))] ++ List.take k Q).map Pt.sl), .blk g1 22 ((List.replicate 32 0#8).map b8), .rd A 1 n c (xs.map b8), .rd B 1 nq d (Q.map Pt.sl), .all Q] ?_
  refine lR ?_
  refine lS ?_
  refine L_nil ?_
  refine T_begun 1 rfl hrec ?_
  refine T_block ?_
  refine lR ?_
  refine lQ (ld_blk 5 rfl rfl Tryz.underlying85 rfl rfl rfl) ?_
  refine lM ?_
  refine L_op rfl (op_bslice (e := 27) (zs := [(.slice ((pat Q k).A) ((pat Q k).n) ((pat Q k).c))]) (qs := [(0, (.slice ((pat Q k).A) ((pat Q k).n) ((pat Q k).c)))]) (fun _ => by kernel_rfl) rfl rfl rfl rfl (fun g10 => ?_))
  refine L_op rfl (op_append (z := (.slice none 0 0)) (size := 1) (bytes := 24) 7 rfl Tryz.underlying85 kr kr (by decide) (src_full (z := 1) 0 rfl rfl sd sd) (by simp [Value.oneCell']) sd sd rfl rfl rfl rfl rfl (fun A11 C12 => ?_))
  refine T_as 0 _ (.row (.slice A11 (1 + k + 1) C12) 27 1 (1 + k + 1) ((([(Pt.mk B4 64 64 (hpad xs (54#8)))] ++ List.take k Q) ++ [(Pt.mk ((pat Q k).A) ((pat Q k).n) ((pat Q k).c) ((pat Q k).xs))]).map Pt.sl)) rfl (by simp only [List.map_append]; rfl) ?_
  refine L_op rfl (op_store (vs := [(.slice A11 (1 + k + 1) C12)]) (cs' := [(.slice A11 (1 + k + 1) C12)]) 7 rfl rfl kr (one_one rfl) (by simp) rfl rfl rfl rfl rfl ?_)
  refine L_nil ?_
  refine T_as 0 _ (.blk g6 85 [(.slice A11 (1 + (k + 1)) C12)]) rfl (by rw [Nat.add_assoc]) ?_
  refine T_as 1 _ (.row (.slice A11 (1 + (k + 1)) C12) 27 1 (1 + (k + 1)) (([(Pt.mk B4 64 64 (hpad xs (54#8)))] ++ List.take (k + 1) Q).map Pt.sl)) rfl (by rw [List.take_add_one, pat_opt Q k oM]; simp [Nat.add_assoc]) ?_
  exact T_on (A11, C12) oM [3, 5, 6, 7, 1, 0, 8, 9, 10, 11] ⟨by decide, rfl⟩
 ·intro D t hp
  obtain ⟨A1, c1⟩ := t
  have hp : nq ≤ nq := hp
  refine lE [(0, (.slice A n c)), (4, (.pointer (some ⟨g1, 0, none⟩))), (6, (.pointer (some ⟨g6, 0, none⟩)))] ?_
  refine lH [0, 1, 2, 3, 4, 5, 6, 7, 8] [.obj D (.deferred (some [])), .rd B4 1 64 64 ((hpad xs (54#8)).map b8), .rd (some ⟨g1_9, 0, none⟩) 1 1 1 [(.slice B nq d)], .blk g6 85 [(.slice A1 (1 + nq) c1)], .row (.slice A1 (1 + nq) c1) 27 1 (1 + nq) (([(Pt.mk B4 64 64 (hpad xs (54#8)))] ++ List.take nq Q).map Pt.sl), .blk g1 22 ((List.replicate 32 0#8).map b8), .rd A 1 n c (xs.map b8), .rd B 1 nq d (Q.map Pt.sl), .all Q] ?_
  refine T_as 4 _ (.row (.slice A1 (1 + nq) c1) 27 1 (1 + nq) (([(Pt.mk B4 64 64 (hpad xs (54#8)))] ++ Q).map Pt.sl)) rfl (by rw [List.take_of_length_le (Nat.le_of_eq hQ)]) ?_
  refine lT ?_
  refine lQ (ld_blk 4 rfl rfl Tryz.underlying85 rfl rfl rfl) ?_
  refine L_op rfl (op_cn (fun w hw => sum_f ([(Pt.mk B4 64 64 (hpad xs (54#8)))] ++ Q) A1 (1 + nq) c1 w (hok_cons ((src_row 0 rfl) w hw) (hok_cons (all_app (all_cons ((src_rd 2 rfl) w hw) (all_nil w)) (hw _ (List.mem_of_getElem? (i := 8) rfl))) (hok_nil w))) sd (by simp [catp_cons, catp_nil]; omega) sd) (enters_of Tryz.func99 kr rfl) rfl rfl rfl rfl rfl (fun t13 q14 => ?_))
  refine T_slot 27 _ (.agg ((shasum (hpad xs 54#8 ++ catp Q)).map b8).toArray) rfl (by rw [catp_app, catp_cons, catp_nil, List.append_nil]) ?_
  refine L_op rfl (op_alloc (z := .agg ((List.replicate 32 0#8).map b8).toArray) (zs := ((List.replicate 32 0#8).map b8)) kr rfl rfl rfl rfl (fun g15 => ?_))
  refine L_op rfl (op_sto (n := 32) (vs := ((shasum (hpad xs 54#8 ++ catp Q)).map b8)) 0 rfl rfl kr (all8_one _) kr sd rfl rfl rfl rfl ?_)
  refine L_nil ?_
  refine T_seq ?_
  refine T_regD [.blk g15 22 ((shasum (hpad xs 54#8 ++ catp Q)).map b8), .row (.slice A1 (1 + nq) c1) 27 1 (1 + nq) (([(Pt.mk B4 64 64 (hpad xs (54#8)))] ++ Q).map Pt.sl), .obj D (.deferred (some [])), .rd B4 1 64 64 ((hpad xs (54#8)).map b8), .rd (some ⟨g1_9, 0, none⟩) 1 1 1 [(.slice B nq d)], .blk g6 85 [(.slice A1 (1 + nq) c1)], .blk g1 22 ((List.replicate 32 0#8).map b8), .rd A 1 n c (xs.map b8), .rd B 1 nq d (Q.map Pt.sl), .all Q] 5 6 #[false, false, false, false, false, false] hF kr kr ?_
  refine D_pure (i := 0) [0, 1, 2, 3, 4, 5, 6, 7, 8, 9] rfl kr rfl (pr_move rfl rfl) (.inr rfl) rfl rfl ?_
  refine D_pure (i := 2) [0, 1, 2, 3, 4, 5, 6, 7, 8, 9] rfl kr rfl (pr_sla (l := 0) (u := 32) (m := 0) sd sd sd rfl Tryz.underlying22 (z := 1) kr rfl rfl rfl rfl) (.inr rfl) rfl rfl ?_
  refine D_one 1 _ rfl kr rfl (op_cn (fun w hw => turned_f xs (92#8) A n c w (hok_cons ((src_rd 7 rfl) w hw) (hok_nil w)) sd sd) (enters_of Tryz.func100 kr rfl) rfl rfl rfl rfl rfl (fun t16 q17 => ?_))
  obtain ⟨B18, eB18⟩ : ∃ x, x = t16 := ⟨_, rfl⟩
  subst eB18
  refine D_on [1, 2, 3, 4, 5, 6, 7, 8, 9, 10] rfl ?_
  refine D_one 3 _ rfl kr rfl (op_bslice (e := 27) (zs := [(.slice B18 64 64), (.slice (some ⟨g15, 0, none⟩) 32 32)]) (qs := [(0, (.slice B18 64 64)), (1, (.slice (some ⟨g15, 0, none⟩) 32 32))]) (fun _ => by kernel_rfl) rfl rfl rfl rfl (fun g19 => ?_))
  refine D_on [2, 3, 4, 5, 6, 7, 8, 9, 10, 11] rfl ?_
  refine D_one 4 _ rfl kr rfl (op_cn (fun w hw => sum_f [(Pt.mk B18 64 64 (hpad xs (92#8))), (Pt.mk (some ⟨g15, 0, none⟩) 32 32 (shasum (hpad xs 54#8 ++ catp Q)))] (some ⟨g19, 0, none⟩) 2 2 w (hok_cons ((src_full (z := 1) 0 rfl rfl sd sd) w hw) (hok_cons (all_cons ((src_old 1 rfl) w hw) (all_cons ((src_full (z := 1) 2 rfl sd sd sd) w hw) (all_nil w))) (hok_nil w))) sd (by simp [catp_cons, catp_nil]; omega) sd) (enters_of Tryz.func99 kr rfl) rfl rfl rfl rfl rfl (fun t20 q21 => ?_))
  refine T_slot 32 _ (.agg ((shasum (hpad xs 92#8 ++ (shasum (hpad xs 54#8 ++ catp Q)))).map b8).toArray) rfl (by rw [catp_cons, catp_cons, catp_nil, List.append_nil]) ?_
  refine D_on [2, 3, 4, 5, 6, 7, 8, 9, 10, 11] rfl ?_
  refine D_one 5 _ rfl kr rfl (op_sto (n := 32) (vs := ((shasum (hpad xs 92#8 ++ (shasum (hpad xs 54#8 ++ catp Q)))).map b8)) 8 rfl rfl kr (all8_one _) kr sd rfl rfl rfl rfl ?_)
  refine D_past kr ?_
  refine D_done kr ?_
  refine T_ret ?_
  refine T_as 0 _ (.blk g1 22 ((mactag xs (catp Q)).map b8)) rfl (by rw [mactag_short xs (catp Q) oM]) ?_
  exact T_finM 5 rfl () qN (resb 0 rfl rfl rfl Tryz.underlying22 rfl (fwz (n := 32) kr sd)) [] ⟨by decide, rfl⟩ rfl
 exact fun D t hq => hq.elim
set_option maxHeartbeats 4000000 in
theorem tag_l_f (xs : List (BitVec 8)) (A : Option Addr) (n : Nat) (c : Nat) (Q : List Pt) (B : Option Addr) (nq : Nat) (d : Nat) (w : World) (hO : HOK [.rd A 1 n c (xs.map b8), .rd B 1 nq d (Q.map Pt.sl), .all Q] w) (hx : xs.length = n) (hn : 64 < n ∧ n ≤ 900000000) (hQ : Q.length = nq) (hm : nq ≤ 100000000) (hs : (catp Q).length ≤ 900000000) : Calls Tryz.prog 91 [(.slice A n c), (.slice B nq d)].toArray w (Ret (T := Unit) [] w (fun _ => True) (fun _ => (.agg ((mactag xs (catp Q)).map b8).toArray)) (fun _ => [])) := by
 have hsl := shasum_len xs
 have hs1 := shasum_len (hpad (shasum xs) 54#8 ++ catp Q)
 have hs2 := shasum_len (hpad (shasum xs) 92#8 ++ (shasum (hpad (shasum xs) 54#8 ++ catp Q)))
 have hp1 := hpad_len (shasum xs) 54#8
 have hp2 := hpad_len (shasum xs) 92#8
 have hml := mactag_len xs (catp Q)
 have hcl : (catp ([Pt.mk none 0 0 (hpad (shasum xs) 54#8)] ++ Q)).length = 64 + (catp Q).length := by rw [catp_app, List.length_append, catp_cons, catp_nil, List.append_nil, hp1]
 have hF : Wid Fence.wide := wid_wide
 refine enter_m (c := _) Tryz.func91 rfl [] _ [.rd A 1 n c (xs.map b8), .rd B 1 nq d (Q.map Pt.sl), .all Q] (by rw [Tryz.ntmps91]; rfl) (own_rds hO rfl) ?_
 rw [Tryz.ntmps91]
 refine lE [(0, (.slice A n c)), (1, (.slice B nq d))] ?_
 refine lH [0, 1, 2] [.rd A 1 n c (xs.map b8), .rd B 1 nq d (Q.map Pt.sl), .all Q] ?_
 refine lT ?_
 refine L_op rfl (op_alloc (z := .agg ((List.replicate 32 0#8).map b8).toArray) (zs := ((List.replicate 32 0#8).map b8)) kr rfl rfl rfl rfl (fun g1 => ?_))
 refine L_nil ?_
 refine T_seq ?_
 refine lT ?_
 refine lM ?_
 refine lO (pr_len_sl Tryz.underlying27 rfl rfl) ?_
 refine lO (pr_cmp (bo := .gtr) (nc_lt (a := 64) (b := n)) rfl rfl rfl rfl) ?_
 refine L_nil ?_
 refine T_cond_yes (t := decide (64 < n)) rfl (by simp; omega) ?_
 refine lT ?_
 refine lM ?_
 refine L_op rfl (op_bslice (e := 27) (zs := [(.slice A n c)]) (qs := [(0, (.slice A n c))]) (fun _ => by kernel_rfl) rfl rfl rfl rfl (fun g2 => ?_))
 refine L_op rfl (op_cn (fun w hw => sum_f [(Pt.mk A n c xs)] (some ⟨g2, 0, none⟩) 1 1 w (hok_cons ((src_full (z := 1) 0 rfl rfl sd sd) w hw) (hok_cons (all_cons ((src_rd 2 rfl) w hw) (all_nil w)) (hok_nil w))) sd (by simp [catp_cons, catp_nil]; omega) sd) (enters_of Tryz.func99 kr rfl) rfl rfl rfl rfl rfl (fun t3 q4 => ?_))
 refine T_slot 14 (.agg ((shasum (catp [(Pt.mk A n c xs)])).map b8).toArray) (.agg ((shasum xs).map b8).toArray) rfl (by rw [catp_cons, catp_nil, List.append_nil]) ?_
 refine L_op rfl (op_alloc (z := .agg ((List.replicate 32 0#8).map b8).toArray) (zs := ((List.replicate 32 0#8).map b8)) kr rfl rfl rfl rfl (fun g5 => ?_))
 refine L_op rfl (op_sto (n := 32) (vs := ((shasum xs).map b8)) 0 rfl rfl kr (all8_one _) kr sd rfl rfl rfl rfl ?_)
 refine L_nil ?_
 refine lR ?_
 refine lO (pr_sla (l := 0) (u := 32) (m := 0) sd sd sd rfl Tryz.underlying22 (z := 1) kr rfl rfl rfl rfl) ?_
 refine lS ?_
 refine lN ?_
 refine lM ?_
 refine L_op rfl (op_cn (fun w hw => turned_f (shasum xs) (54#8) (some ⟨g5, 0, none⟩) 32 32 w (hok_cons ((src_full (z := 1) 0 rfl sd sd sd) w hw) (hok_nil w)) sd sd) (enters_of Tryz.func100 kr rfl) rfl rfl rfl rfl rfl (fun t6 q7 => ?_))
 obtain ⟨B8, eB8⟩ : ∃ x, x = t6 := ⟨_, rfl⟩
 subst eB8
 refine L_op rfl (op_bslice (e := 27) (zs := [(.slice B8 64 64)]) (qs := [(0, (.slice B8 64 64))]) (fun _ => by kernel_rfl) rfl rfl rfl rfl (fun g9 => ?_))
 refine L_op rfl (op_alloc (z := (.slice none 0 0)) (zs := [(.slice none 0 0)]) kr rfl rfl rfl rfl (fun g10 => ?_))
 refine L_op rfl (op_store (vs := [(.slice (some ⟨g9, 0, none⟩) 1 1)]) (cs' := [(.slice (some ⟨g9, 0, none⟩) 1 1)]) 0 rfl rfl kr (one_one rfl) (by simp) rfl rfl rfl rfl rfl ?_)
 refine L_nil ?_
 refine T_seq ?_
 refine lT ?_
 refine lM ?_
 refine L_op rfl (op_cn (fun w hw => values_f B nq d w (hok_nil w) ) (enters_of Tryz.func101 kr rfl) rfl rfl rfl rfl rfl (fun t11 q12 => ?_))
 obtain ⟨g1_13, eg1_13⟩ : ∃ x, x = t11 := ⟨_, rfl⟩
 subst eg1_13
 refine L_nil ?_
 refine T_block ?_
 refine T_tord 0 rfl ?_
 refine T_tord 3 rfl ?_
 refine T_as 2 _ (.blk g10 85 [(.slice (some ⟨g9, 0, none⟩) (1 + 0) 1)]) rfl (by rfl) ?_
 refine T_rowb 3 (zs := (([(Pt.mk B8 64 64 (hpad (shasum xs) (54#8)))] ++ List.take 0 Q).map Pt.sl)) 1 (1 + 0) 1 rfl sd sd rfl (rfl) ?_
 refine T_range (Θ := Unit) (T := Option Addr × Nat) (Tx := Unit) (cap := [(.pointer (some ⟨g1_13, 0, none⟩))]) (ps := [21]) (values_seq Q B nq d g1_13 sd sd) rfl (enters_of Tryz.func110 kr rfl) (fun k ⟨A1, c1⟩ => k ≤ nq) (fun k ⟨A1, c1⟩ => [.rd B8 1 64 64 ((hpad (shasum xs) (54#8)).map b8), .rd (some ⟨g1_13, 0, none⟩) 1 1 1 [(.slice B nq d)], .blk g10 85 [(.slice A1 (1 + k) c1)], .row (.slice A1 (1 + k) c1) 27 1 (1 + k) (([(Pt.mk B8 64 64 (hpad (shasum xs) (54#8)))] ++ List.take k Q).map Pt.sl), .blk g5 22 ((shasum xs).map b8), .blk g2 27 [(.slice A n c)], .blk g1 22 ((List.replicate 32 0#8).map b8), .rd A 1 n c (xs.map b8), .rd B 1 nq d (Q.map Pt.sl), .all Q]) (fun _ => False) (fun _ => []) 0 (some ⟨g9, 0, none⟩, 1) pN [2, 3, 1, 0, 4, 5, 6, 7, 8, 9] ⟨by decide, rfl⟩ [3, 8, 9] rfl rfl (fun _ _ => rfl) (fun _ => rfl) (fun _ _ => rfl) (fun _ _ => rfl) rfl (fun _ => trivial) ?_ ?_ ?_
 ·intro C2 w2 lo2 rs2 l D m k t th rc hrec hk hp
  obtain ⟨A1, c1⟩ := t
  have hp : k ≤ nq := hp
  have hk : k < nq := hk
  have hF : Wid (Fence.wide.inRound l) := wid_round l
  refine lE [(6, (.pointer (some ⟨g10, 0, none⟩))), (21, (.slice ((pat Q k).A) ((pat Q k).n) ((pat Q k).c)))] ?_
  refine lH [0, 1, 2, 3, 4, 5, 6, 7, 8, 9, 10, 11, 12] [.rd ((pat Q k).A) 1 ((pat Q k).n) ((pat Q k).c) (((pat Q k).xs).map b8), .obj l (.loop rc), .obj D (.deferred (some [])), .rd B8 1 64 64 ((hpad (shasum xs) (54#8)).map b8), .rd (some ⟨g1_13, 0, none⟩) 1 1 1 [(.slice B nq d)], .blk g10 85 [(.slice A1 (1 + k) c1)], .row (.slice A1 (1 + k) c1) 27 1 (1 + k) (([(Pt.mk B8 64 64 (hpad (shasum xs) (54#8)))] ++ List.take k Q).map Pt.sl), .blk g5 22 ((shasum xs).map b8), .blk g2 27 [(.slice A n c)], .blk g1 22 ((List.replicate 32 0#8).map b8), .rd A 1 n c (xs.map b8), .rd B 1 nq d (Q.map Pt.sl), .all Q] ?_
  refine lR ?_
  refine lS ?_
  refine L_nil ?_
  refine T_begun 1 rfl hrec ?_
  refine T_block ?_
  refine lR ?_
  refine lQ (ld_blk 5 rfl rfl Tryz.underlying85 rfl rfl rfl) ?_
  refine lM ?_
  refine L_op rfl (op_bslice (e := 27) (zs := [(.slice ((pat Q k).A) ((pat Q k).n) ((pat Q k).c))]) (qs := [(0, (.slice ((pat Q k).A) ((pat Q k).n) ((pat Q k).c)))]) (fun _ => by kernel_rfl) rfl rfl rfl rfl (fun g14 => ?_))
  refine L_op rfl (op_append (z := (.slice none 0 0)) (size := 1) (bytes := 24) 7 rfl Tryz.underlying85 kr kr (by decide) (src_full (z := 1) 0 rfl rfl sd sd) (by simp [Value.oneCell']) sd sd rfl rfl rfl rfl rfl (fun A15 C16 => ?_))
  refine T_as 0 _ (.row (.slice A15 (1 + k + 1) C16) 27 1 (1 + k + 1) ((([(Pt.mk B8 64 64 (hpad (shasum xs) (54#8)))] ++ List.take k Q) ++ [(Pt.mk ((pat Q k).A) ((pat Q k).n) ((pat Q k).c) ((pat Q k).xs))]).map Pt.sl)) rfl (by simp only [List.map_append]; rfl) ?_
  refine L_op rfl (op_store (vs := [(.slice A15 (1 + k + 1) C16)]) (cs' := [(.slice A15 (1 + k + 1) C16)]) 7 rfl rfl kr (one_one rfl) (by simp) rfl rfl rfl rfl rfl ?_)
  refine L_nil ?_
  refine T_as 0 _ (.blk g10 85 [(.slice A15 (1 + (k + 1)) C16)]) rfl (by rw [Nat.add_assoc]) ?_
  refine T_as 1 _ (.row (.slice A15 (1 + (k + 1)) C16) 27 1 (1 + (k + 1)) (([(Pt.mk B8 64 64 (hpad (shasum xs) (54#8)))] ++ List.take (k + 1) Q).map Pt.sl)) rfl (by rw [List.take_add_one, pat_opt Q k oM]; simp [Nat.add_assoc]) ?_
  exact T_on (A15, C16) oM [3, 5, 6, 7, 1, 0, 8, 9, 10, 11, 12, 13] ⟨by decide, rfl⟩
 ·intro D t hp
  obtain ⟨A1, c1⟩ := t
  have hp : nq ≤ nq := hp
  refine lE [(0, (.slice (some ⟨g5, 0, none⟩) 32 32)), (4, (.pointer (some ⟨g1, 0, none⟩))), (6, (.pointer (some ⟨g10, 0, none⟩)))] ?_
  refine lH [0, 1, 2, 3, 4, 5, 6, 7, 8, 9, 10] [.obj D (.deferred (some [])), .rd B8 1 64 64 ((hpad (shasum xs) (54#8)).map b8), .rd (some ⟨g1_13, 0, none⟩) 1 1 1 [(.slice B nq d)], .blk g10 85 [(.slice A1 (1 + nq) c1)], .row (.slice A1 (1 + nq) c1) 27 1 (1 + nq) (([(Pt.mk B8 64 64 (hpad (shasum xs) (54#8)))] ++ List.take nq Q).map Pt.sl), .blk g5 22 ((shasum xs).map b8), .blk g2 27 [(.slice A n c)], .blk g1 22 ((List.replicate 32 0#8).map b8), .rd A 1 n c (xs.map b8), .rd B 1 nq d (Q.map Pt.sl), .all Q] ?_
  refine T_as 4 _ (.row (.slice A1 (1 + nq) c1) 27 1 (1 + nq) (([(Pt.mk B8 64 64 (hpad (shasum xs) (54#8)))] ++ Q).map Pt.sl)) rfl (by rw [List.take_of_length_le (Nat.le_of_eq hQ)]) ?_
  refine lT ?_
  refine lQ (ld_blk 4 rfl rfl Tryz.underlying85 rfl rfl rfl) ?_
  refine L_op rfl (op_cn (fun w hw => sum_f ([(Pt.mk B8 64 64 (hpad (shasum xs) (54#8)))] ++ Q) A1 (1 + nq) c1 w (hok_cons ((src_row 0 rfl) w hw) (hok_cons (all_app (all_cons ((src_rd 2 rfl) w hw) (all_nil w)) (hw _ (List.mem_of_getElem? (i := 10) rfl))) (hok_nil w))) sd (by simp [catp_cons, catp_nil]; omega) sd) (enters_of Tryz.func99 kr rfl) rfl rfl rfl rfl rfl (fun t17 q18 => ?_))
  refine T_slot 27 _ (.agg ((shasum (hpad (shasum xs) 54#8 ++ catp Q)).map b8).toArray) rfl (by rw [catp_app, catp_cons, catp_nil, List.append_nil]) ?_
  refine L_op rfl (op_alloc (z := .agg ((List.replicate 32 0#8).map b8).toArray) (zs := ((List.replicate 32 0#8).map b8)) kr rfl rfl rfl rfl (fun g19 => ?_))
  refine L_op rfl (op_sto (n := 32) (vs := ((shasum (hpad (shasum xs) 54#8 ++ catp Q)).map b8)) 0 rfl rfl kr (all8_one _) kr sd rfl rfl rfl rfl ?_)
  refine L_nil ?_
  refine T_seq ?_
  refine T_regD [.blk g19 22 ((shasum (hpad (shasum xs) 54#8 ++ catp Q)).map b8), .row (.slice A1 (1 + nq) c1) 27 1 (1 + nq) (([(Pt.mk B8 64 64 (hpad (shasum xs) (54#8)))] ++ Q).map Pt.sl), .obj D (.deferred (some [])), .rd B8 1 64 64 ((hpad (shasum xs) (54#8)).map b8), .rd (some ⟨g1_13, 0, none⟩) 1 1 1 [(.slice B nq d)], .blk g10 85 [(.slice A1 (1 + nq) c1)], .blk g5 22 ((shasum xs).map b8), .blk g2 27 [(.slice A n c)], .blk g1 22 ((List.replicate 32 0#8).map b8), .rd A 1 n c (xs.map b8), .rd B 1 nq d (Q.map Pt.sl), .all Q] 5 6 #[false, false, false, false, false, false] hF kr kr ?_
  refine D_pure (i := 0) [0, 1, 2, 3, 4, 5, 6, 7, 8, 9, 10, 11] rfl kr rfl (pr_move rfl rfl) (.inr rfl) rfl rfl ?_
  refine D_pure (i := 2) [0, 1, 2, 3, 4, 5, 6, 7, 8, 9, 10, 11] rfl kr rfl (pr_sla (l := 0) (u := 32) (m := 0) sd sd sd rfl Tryz.underlying22 (z := 1) kr rfl rfl rfl rfl) (.inr rfl) rfl rfl ?_
  refine D_one 1 _ rfl kr rfl (op_cn (fun w hw => turned_f (shasum xs) (92#8) (some ⟨g5, 0, none⟩) 32 32 w (hok_cons ((src_full (z := 1) 6 rfl sd sd sd) w hw) (hok_nil w)) sd sd) (enters_of Tryz.func100 kr rfl) rfl rfl rfl rfl rfl (fun t20 q21 => ?_))
  obtain ⟨B22, eB22⟩ : ∃ x, x = t20 := ⟨_, rfl⟩
  subst eB22
  refine D_on [1, 2, 3, 4, 5, 6, 7, 8, 9, 10, 11, 12] rfl ?_
  refine D_one 3 _ rfl kr rfl (op_bslice (e := 27) (zs := [(.slice B22 64 64), (.slice (some ⟨g19, 0, none⟩) 32 32)]) (qs := [(0, (.slice B22 64 64)), (1, (.slice (some ⟨g19, 0, none⟩) 32 32))]) (fun _ => by kernel_rfl) rfl rfl rfl rfl (fun g23 => ?_))
  refine D_on [2, 3, 4, 5, 6, 7, 8, 9, 10, 11, 12, 13] rfl ?_
  refine D_one 4 _ rfl kr rfl (op_cn (fun w hw => sum_f [(Pt.mk B22 64 64 (hpad (shasum xs) (92#8))), (Pt.mk (some ⟨g19, 0, none⟩) 32 32 (shasum (hpad (shasum xs) 54#8 ++ catp Q)))] (some ⟨g23, 0, none⟩) 2 2 w (hok_cons ((src_full (z := 1) 0 rfl rfl sd sd) w hw) (hok_cons (all_cons ((src_old 1 rfl) w hw) (all_cons ((src_full (z := 1) 2 rfl sd sd sd) w hw) (all_nil w))) (hok_nil w))) sd (by simp [catp_cons, catp_nil]; omega) sd) (enters_of Tryz.func99 kr rfl) rfl rfl rfl rfl rfl (fun t24 q25 => ?_))
  refine T_slot 32 _ (.agg ((shasum (hpad (shasum xs) 92#8 ++ (shasum (hpad (shasum xs) 54#8 ++ catp Q)))).map b8).toArray) rfl (by rw [catp_cons, catp_cons, catp_nil, List.append_nil]) ?_
  refine D_on [2, 3, 4, 5, 6, 7, 8, 9, 10, 11, 12, 13] rfl ?_
  refine D_one 5 _ rfl kr rfl (op_sto (n := 32) (vs := ((shasum (hpad (shasum xs) 92#8 ++ (shasum (hpad (shasum xs) 54#8 ++ catp Q)))).map b8)) 10 rfl rfl kr (all8_one _) kr sd rfl rfl rfl rfl ?_)
  refine D_past kr ?_
  refine D_done kr ?_
  refine T_ret ?_
  refine T_as 0 _ (.blk g1 22 ((mactag xs (catp Q)).map b8)) rfl (by rw [mactag_long xs (catp Q) oM]) ?_
  exact T_finM 5 rfl () qN (resb 0 rfl rfl rfl Tryz.underlying22 rfl (fwz (n := 32) kr sd)) [] ⟨by decide, rfl⟩ rfl
 exact fun D t hq => hq.elim
set_option maxHeartbeats 4000000 in
theorem rtag_s_f (xs : List (BitVec 8)) (A : Option Addr) (n : Nat) (c : Nat) (ts : List (BitVec 8)) (B : Option Addr) (nt : Nat) (d : Nat) (w : World) (hO : HOK [.rd A 1 n c (xs.map b8), .rd B 1 nt d (ts.map b8)] w) (hx : xs.length = n) (hn : n ≤ 64) (ht : ts.length = nt) (hnt : nt ≤ 900000000) : Calls Tryz.prog 89 [(.slice A n c), (.slice B nt d)].toArray w (Ret (T := Unit) [] w (fun _ => True) (fun _ => (.agg ((mactag xs ts).map b8).toArray)) (fun _ => [])) := by
 have hsl := shasum_len xs
 have hs1 := shasum_len (hpad xs 54#8 ++ ts)
 have hs2 := shasum_len (hpad xs 92#8 ++ (shasum (hpad xs 54#8 ++ ts)))
 have hp1 := hpad_len xs 54#8
 have hp2 := hpad_len xs 92#8
 have hml := mactag_len xs ts
 refine enter (c := _) Tryz.func89 rfl [] _ [.rd A 1 n c (xs.map b8), .rd B 1 nt d (ts.map b8)] (by rw [Tryz.ntmps89]; rfl) (own_rds hO rfl) ?_
 rw [Tryz.ntmps89]
 refine lE [(0, (.slice A n c)), (1, (.slice B nt d))] ?_
 refine lH [0, 1] [.rd A 1 n c (xs.map b8), .rd B 1 nt d (ts.map b8)] ?_
 refine lT ?_
 refine L_op rfl (op_alloc (z := .agg ((List.replicate 32 0#8).map b8).toArray) (zs := ((List.replicate 32 0#8).map b8)) kr rfl rfl rfl rfl (fun g1 => ?_))
 refine L_nil ?_
 refine T_seq ?_
 refine lT ?_
 refine lM ?_
 refine lO (pr_len_sl Tryz.underlying27 rfl rfl) ?_
 refine lO (pr_cmp (bo := .gtr) (nc_lt (a := 64) (b := n)) rfl rfl rfl rfl) ?_
 refine L_nil ?_
 refine T_cond_no (t := decide (64 < n)) rfl (by simp; omega) ?_
 refine T_skip ?_
 refine lT ?_
 refine L_op rfl (op_make (z := (b8 (0#8))) (n := 64) (c := 64) Tryz.underlying27 (bytes := 1) kr rfl sd sd sd rfl rfl rfl rfl rfl (fun g2 => ?_))
 refine T_as 0 _ (.blk g2 5 ((List.replicate 64 0#8).map b8)) rfl (by rw [List.map_replicate]) ?_
 refine lS ?_
 refine lN ?_
 refine L_op rfl (op_make (z := (b8 (0#8))) (n := 64) (c := 64) Tryz.underlying27 (bytes := 1) kr rfl sd sd sd rfl rfl rfl rfl rfl (fun g3 => ?_))
 refine T_as 0 _ (.blk g3 5 ((List.replicate 64 0#8).map b8)) rfl (by rw [List.map_replicate]) ?_
 refine lS ?_
 refine L_nil ?_
 refine T_seq ?_
 refine lT ?_
 refine lS ?_
 refine L_nil ?_
 refine T_block ?_
 refine T_as 0 _ (.blk g3 5 ((pre0 (hpad xs 92#8) 64 0).map b8)) rfl (by rw [← pre0_zero]) ?_
 refine T_as 1 _ (.blk g2 5 ((pre0 (hpad xs 54#8) 64 0).map b8)) rfl (by rw [← pre0_zero]) ?_
 refine T_loop (T := Nat) (fun i => i ≤ 64) (fun i => [(0, (.slice A n c)), (1, (.slice B nt d)), (4, (.pointer (some ⟨g1, 0, none⟩))), (6, (.slice (some ⟨g2, 0, none⟩) 64 64)), (7, (.slice (some ⟨g3, 0, none⟩) 64 64)), (8, (.int .i64 ((i : Nat) : Int)))]) (fun i => [.blk g3 5 ((pre0 (hpad xs 92#8) 64 i).map b8), .blk g2 5 ((pre0 (hpad xs 54#8) 64 i).map b8), .blk g1 22 ((List.replicate 32 0#8).map b8), .rd A 1 n c (xs.map b8), .rd B 1 nt d (ts.map b8)]) (fun i => 64 - i) 0 pN (sc rfl (sc rfl (sc rfl (sc rfl (sc rfl (sc rfl sn)))))) [1, 0, 2, 3, 4] ⟨by decide, rfl⟩ ?_
 rintro i hp
 have hp : i ≤ 64 := hp
 have hq1 := pre0_len (hpad xs 54#8) 64 i hp1 hp
 have hq2 := pre0_len (hpad xs 92#8) 64 i hp2 hp
 refine lE [(0, (.slice A n c)), (1, (.slice B nt d)), (4, (.pointer (some ⟨g1, 0, none⟩))), (6, (.slice (some ⟨g2, 0, none⟩) 64 64)), (7, (.slice (some ⟨g3, 0, none⟩) 64 64)), (8, (.int .i64 ((i : Nat) : Int)))] ?_
 refine lH [0, 1, 2, 3, 4] [.blk g3 5 ((pre0 (hpad xs 92#8) 64 i).map b8), .blk g2 5 ((pre0 (hpad xs 54#8) 64 i).map b8), .blk g1 22 ((List.replicate 32 0#8).map b8), .rd A 1 n c (xs.map b8), .rd B 1 nt d (ts.map b8)] ?_
 refine T_seq ?_
 refine lT ?_
 refine lM ?_
 refine lO (pr_cmp (bo := .lss) (nc_lt (a := i) (b := 64)) rfl rfl rfl rfl) ?_
 refine L_nil ?_
 refine T_cond (decide (i < 64)) rfl (fun hc_4 => ?_) (fun hc_4 => ?_)
 ·have hc_4 := of_decide_eq_true hc_4
  refine T_skip ?_
  refine T_seq ?_
  refine T_block ?_
  refine lT ?_
  refine lS ?_
  refine L_nil ?_
  refine T_seq ?_
  refine lT ?_
  refine lM ?_
  refine lM ?_
  refine lO (pr_len_sl Tryz.underlying27 rfl rfl) ?_
  refine lO (pr_cmp (bo := .lss) (nc_lt (a := i) (b := n)) rfl rfl rfl rfl) ?_
  refine L_nil ?_
  refine T_cond (decide (i < n)) rfl (fun hc_5 => ?_) (fun hc_5 => ?_)
  ·have hc_5 := of_decide_eq_true hc_5
   refine lR ?_
   refine lM ?_
   refine lM ?_
   refine lO (pr_ixs1 (j := i) (src_none (src_rd 3 rfl)) sd Tryz.underlying27 kr rfl rfl rfl) ?_
   refine lQ (ld_src (m := i) (src_rd 3 rfl) (get8 sd) Tryz.underlying5 rfl rfl rfl) ?_
   refine lS ?_
   refine L_nil ?_
   refine lR ?_
   refine lM ?_
   refine lM ?_
   refine lM ?_
   refine lM ?_
   refine lM ?_
   refine lO (pr_xor (ib_xor8 _ (54#8)) rfl rfl rfl) ?_
   refine lM ?_
   refine lO (pr_xor (ib_xor8 _ (92#8)) rfl rfl rfl) ?_
   refine lO (pr_ixb (j := i) (m' := i) sd oM Tryz.underlying27 (z := 1) kr rfl rfl rfl) ?_
   refine L_op rfl (op_store (vs := [(b8 ((ath xs i) ^^^ 54#8))]) (cs' := ((List.set (pre0 (hpad xs 54#8) 64 i) i ((ath xs i) ^^^ 54#8)).map b8)) 1 rfl rfl kr (one_one rfl) (stl sd) (splice_map (f := b8) sd) rfl rfl rfl rfl ?_)
   refine lO (pr_ixb (j := i) (m' := i) sd oM Tryz.underlying27 (z := 1) kr rfl rfl rfl) ?_
   refine L_op rfl (op_store (vs := [(b8 ((ath xs i) ^^^ 92#8))]) (cs' := ((List.set (pre0 (hpad xs 92#8) 64 i) i ((ath xs i) ^^^ 92#8)).map b8)) 1 rfl rfl kr (one_one rfl) (stl sd) (splice_map (f := b8) sd) rfl rfl rfl rfl ?_)
   refine L_nil ?_
   refine lR ?_
   refine lM ?_
   refine lO (pr_add (na_i64 (a := i) (b := 1) sd) rfl rfl rfl) ?_
   refine lS ?_
   refine L_nil ?_
   refine T_as 0 _ (.blk g3 5 ((pre0 (hpad xs 92#8) 64 (i + 1)).map b8)) rfl (by rw [hpre_set _ _ _ i oM (by rfl)]) ?_
   refine T_as 1 _ (.blk g2 5 ((pre0 (hpad xs 54#8) 64 (i + 1)).map b8)) rfl (by rw [hpre_set _ _ _ i oM (by rfl)]) ?_
   exact T_again (i + 1) pN pN (sc rfl (sc rfl (sc rfl (sc rfl (sc rfl (sc rfl sn)))))) [1, 0, 2, 3, 4] ⟨by decide, rfl⟩
  have hc_5 := of_decide_eq_false hc_5
  refine T_skip ?_
  refine lR ?_
  refine lM ?_
  refine lM ?_
  refine lM ?_
  refine lM ?_
  refine lM ?_
  refine lO (pr_xor (ib_xor8 (0#8) (54#8)) rfl rfl rfl) ?_
  refine lM ?_
  refine lO (pr_xor (ib_xor8 (0#8) (92#8)) rfl rfl rfl) ?_
  refine lO (pr_ixb (j := i) (m' := i) sd oM Tryz.underlying27 (z := 1) kr rfl rfl rfl) ?_
  refine L_op rfl (op_store (vs := [(b8 (0#8 ^^^ 54#8))]) (cs' := ((List.set (pre0 (hpad xs 54#8) 64 i) i (0#8 ^^^ 54#8)).map b8)) 1 rfl rfl kr (one_one rfl) (stl sd) (splice_map (f := b8) sd) rfl rfl rfl rfl ?_)
  refine lO (pr_ixb (j := i) (m' := i) sd oM Tryz.underlying27 (z := 1) kr rfl rfl rfl) ?_
  refine L_op rfl (op_store (vs := [(b8 (0#8 ^^^ 92#8))]) (cs' := ((List.set (pre0 (hpad xs 92#8) 64 i) i (0#8 ^^^ 92#8)).map b8)) 1 rfl rfl kr (one_one rfl) (stl sd) (splice_map (f := b8) sd) rfl rfl rfl rfl ?_)
  refine L_nil ?_
  refine lR ?_
  refine lM ?_
  refine lO (pr_add (na_i64 (a := i) (b := 1) sd) rfl rfl rfl) ?_
  refine lS ?_
  refine L_nil ?_
  refine T_as 0 _ (.blk g3 5 ((pre0 (hpad xs 92#8) 64 (i + 1)).map b8)) rfl (by rw [hpre_set _ _ _ i oM (by rw [ath_out _ _ oM])]) ?_
  refine T_as 1 _ (.blk g2 5 ((pre0 (hpad xs 54#8) 64 (i + 1)).map b8)) rfl (by rw [hpre_set _ _ _ i oM (by rw [ath_out _ _ oM])]) ?_
  exact T_again (i + 1) pN pN (sc rfl (sc rfl (sc rfl (sc rfl (sc rfl (sc rfl sn)))))) [1, 0, 2, 3, 4] ⟨by decide, rfl⟩
 have hc_4 := of_decide_eq_false hc_4
 refine T_exit rfl ?_
 obtain rfl : 64 = i := by omega
 refine T_as 0 _ (.blk g3 5 (((hpad xs 92#8)).map b8)) rfl (by rw [pre0_all _ _ aS]) ?_
 refine T_as 1 _ (.blk g2 5 (((hpad xs 54#8)).map b8)) rfl (by rw [pre0_all _ _ aS]) ?_
 refine lT ?_
 refine lM ?_
 refine lM ?_
 refine T_rowb 0 (zs := (((hpad xs 54#8)).map b8)) 1 64 64 rfl sd sd sd (by rw [List.take_of_length_le sd]) ?_
 refine L_op rfl (op_append (z := (b8 (0#8))) (size := 1) (bytes := 1) 0 rfl Tryz.underlying27 kr kr (by decide) (src_rd 4 rfl) (all8_one _) sd sd rfl rfl rfl rfl rfl (fun A6 C7 => ?_))
 refine T_as 0 _ (.row (.slice A6 (64 + nt) C7) 5 1 (64 + nt) ((((hpad xs 54#8)) ++ ts).map b8)) rfl (by congr 1; simp; done) ?_
 refine L_op rfl (op_cn (fun w hw => rsum_f (((hpad xs 54#8)) ++ ts) A6 (64 + nt) C7 w (hok_cons ((src_row 0 rfl) w hw) (hok_nil w)) (by simp; omega) sd) (enters_of Tryz.func97 kr rfl) rfl rfl rfl rfl rfl (fun t8 q9 => ?_))
 refine L_op rfl (op_alloc (z := .agg ((List.replicate 32 0#8).map b8).toArray) (zs := ((List.replicate 32 0#8).map b8)) kr rfl rfl rfl rfl (fun g10 => ?_))
 refine L_op rfl (op_sto (n := 32) (vs := ((shasum (((hpad xs 54#8)) ++ ts)).map b8)) 0 rfl rfl kr (all8_one _) kr sd rfl rfl rfl rfl ?_)
 refine lN ?_
 refine lM ?_
 refine lO (pr_sla (l := 0) (u := 32) (m := 0) sd sd sd rfl Tryz.underlying22 (z := 1) kr rfl rfl rfl rfl) ?_
 refine T_rowb 2 (zs := (((hpad xs 92#8)).map b8)) 1 64 64 rfl sd sd sd (by rw [List.take_of_length_le sd]) ?_
 refine L_op rfl (op_append (z := (b8 (0#8))) (size := 1) (bytes := 1) 0 rfl Tryz.underlying27 kr kr (by decide) (src_full (z := 1) 1 rfl sd sd sd) (all8_one _) sd sd rfl rfl rfl rfl rfl (fun A11 C12 => ?_))
 refine T_as 0 _ (.row (.slice A11 96 C12) 5 1 96 ((((hpad xs 92#8)) ++ (shasum (((hpad xs 54#8)) ++ ts))).map b8)) rfl (by congr 1; simp; done) ?_
 refine T_slot 47 (.slice A11 (64 + 32) C12) (.slice A11 96 C12) rfl rfl ?_
 refine L_op rfl (op_cn (fun w hw => rsum_f (((hpad xs 92#8)) ++ (shasum (((hpad xs 54#8)) ++ ts))) A11 96 C12 w (hok_cons ((src_row 0 rfl) w hw) (hok_nil w)) (by simp; omega) sd) (enters_of Tryz.func97 kr rfl) rfl rfl rfl rfl rfl (fun t13 q14 => ?_))
 refine L_op rfl (op_sto (n := 32) (vs := ((shasum (((hpad xs 92#8)) ++ (shasum (((hpad xs 54#8)) ++ ts)))).map b8)) 3 rfl rfl kr (all8_one _) kr sd rfl rfl rfl rfl ?_)
 refine L_nil ?_
 refine T_ret ?_
 refine T_as 0 _ (.blk g1 22 ((mactag xs ts).map b8)) rfl (by rw [mactag_short xs ts oM]) ?_
 exact T_fin () qN (resb 0 rfl rfl rfl Tryz.underlying22 rfl (fwz (n := 32) kr sd)) [] ⟨by decide, rfl⟩ rfl
set_option maxHeartbeats 4000000 in
theorem rtag_l_f (xs : List (BitVec 8)) (A : Option Addr) (n : Nat) (c : Nat) (ts : List (BitVec 8)) (B : Option Addr) (nt : Nat) (d : Nat) (w : World) (hO : HOK [.rd A 1 n c (xs.map b8), .rd B 1 nt d (ts.map b8)] w) (hx : xs.length = n) (hn : 64 < n ∧ n ≤ 900000000) (ht : ts.length = nt) (hnt : nt ≤ 900000000) : Calls Tryz.prog 89 [(.slice A n c), (.slice B nt d)].toArray w (Ret (T := Unit) [] w (fun _ => True) (fun _ => (.agg ((mactag xs ts).map b8).toArray)) (fun _ => [])) := by
 have hsl := shasum_len xs
 have hs1 := shasum_len (hpad (shasum xs) 54#8 ++ ts)
 have hs2 := shasum_len (hpad (shasum xs) 92#8 ++ (shasum (hpad (shasum xs) 54#8 ++ ts)))
 have hp1 := hpad_len (shasum xs) 54#8
 have hp2 := hpad_len (shasum xs) 92#8
 have hml := mactag_len xs ts
 refine enter (c := _) Tryz.func89 rfl [] _ [.rd A 1 n c (xs.map b8), .rd B 1 nt d (ts.map b8)] (by rw [Tryz.ntmps89]; rfl) (own_rds hO rfl) ?_
 rw [Tryz.ntmps89]
 refine lE [(0, (.slice A n c)), (1, (.slice B nt d))] ?_
 refine lH [0, 1] [.rd A 1 n c (xs.map b8), .rd B 1 nt d (ts.map b8)] ?_
 refine lT ?_
 refine L_op rfl (op_alloc (z := .agg ((List.replicate 32 0#8).map b8).toArray) (zs := ((List.replicate 32 0#8).map b8)) kr rfl rfl rfl rfl (fun g1 => ?_))
 refine L_nil ?_
 refine T_seq ?_
 refine lT ?_
 refine lM ?_
 refine lO (pr_len_sl Tryz.underlying27 rfl rfl) ?_
 refine lO (pr_cmp (bo := .gtr) (nc_lt (a := 64) (b := n)) rfl rfl rfl rfl) ?_
 refine L_nil ?_
 refine T_cond_yes (t := decide (64 < n)) rfl (by simp; omega) ?_
 refine lT ?_
 refine lM ?_
 refine L_op rfl (op_cn (fun w hw => rsum_f xs A n c w (hok_cons ((src_rd 1 rfl) w hw) (hok_nil w)) aS sd) (enters_of Tryz.func97 kr rfl) rfl rfl rfl rfl rfl (fun t2 q3 => ?_))
 refine L_op rfl (op_alloc (z := .agg ((List.replicate 32 0#8).map b8).toArray) (zs := ((List.replicate 32 0#8).map b8)) kr rfl rfl rfl rfl (fun g4 => ?_))
 refine L_op rfl (op_sto (n := 32) (vs := ((shasum xs).map b8)) 0 rfl rfl kr (all8_one _) kr sd rfl rfl rfl rfl ?_)
 refine L_nil ?_
 refine lR ?_
 refine lO (pr_sla (l := 0) (u := 32) (m := 0) sd sd sd rfl Tryz.underlying22 (z := 1) kr rfl rfl rfl rfl) ?_
 refine lS ?_
 refine lN ?_
 refine L_op rfl (op_make (z := (b8 (0#8))) (n := 64) (c := 64) Tryz.underlying27 (bytes := 1) kr rfl sd sd sd rfl rfl rfl rfl rfl (fun g5 => ?_))
 refine T_as 0 _ (.blk g5 5 ((List.replicate 64 0#8).map b8)) rfl (by rw [List.map_replicate]) ?_
 refine lS ?_
 refine lN ?_
 refine L_op rfl (op_make (z := (b8 (0#8))) (n := 64) (c := 64) Tryz.underlying27 (bytes := 1) kr rfl sd sd sd rfl rfl rfl rfl rfl (fun g6 => ?_))
 refine T_as 0 _ (.blk g6 5 ((List.replicate 64 0#8).map b8)) rfl (by rw [List.map_replicate]) ?_
 refine lS ?_
 refine L_nil ?_
 refine T_seq ?_
 refine lT ?_
 refine lS ?_
 refine L_nil ?_
 refine T_block ?_
 refine T_as 0 _ (.blk g6 5 ((pre0 (hpad (shasum xs) 92#8) 64 0).map b8)) rfl (by rw [← pre0_zero]) ?_
 refine T_as 1 _ (.blk g5 5 ((pre0 (hpad (shasum xs) 54#8) 64 0).map b8)) rfl (by rw [← pre0_zero]) ?_
 refine T_loop (T := Nat) (fun i => i ≤ 64) (fun i => [(0, (.slice (some ⟨g4, 0, none⟩) 32 32)), (1, (.slice B nt d)), (4, (.pointer (some ⟨g1, 0, none⟩))), (6, (.slice (some ⟨g5, 0, none⟩) 64 64)), (7, (.slice (some ⟨g6, 0, none⟩) 64 64)), (8, (.int .i64 ((i : Nat) : Int)))]) (fun i => [.blk g6 5 ((pre0 (hpad (shasum xs) 92#8) 64 i).map b8), .blk g5 5 ((pre0 (hpad (shasum xs) 54#8) 64 i).map b8), .blk g4 22 ((shasum xs).map b8), .blk g1 22 ((List.replicate 32 0#8).map b8), .rd A 1 n c (xs.map b8), .rd B 1 nt d (ts.map b8)]) (fun i => 64 - i) 0 pN (sc rfl (sc rfl (sc rfl (sc rfl (sc rfl (sc rfl sn)))))) [1, 0, 2, 3, 4, 5] ⟨by decide, rfl⟩ ?_
 rintro i hp
 have hp : i ≤ 64 := hp
 have hq1 := pre0_len (hpad (shasum xs) 54#8) 64 i hp1 hp
 have hq2 := pre0_len (hpad (shasum xs) 92#8) 64 i hp2 hp
 refine lE [(0, (.slice (some ⟨g4, 0, none⟩) 32 32)), (1, (.slice B nt d)), (4, (.pointer (some ⟨g1, 0, none⟩))), (6, (.slice (some ⟨g5, 0, none⟩) 64 64)), (7, (.slice (some ⟨g6, 0, none⟩) 64 64)), (8, (.int .i64 ((i : Nat) : Int)))] ?_
 refine lH [0, 1, 2, 3, 4, 5] [.blk g6 5 ((pre0 (hpad (shasum xs) 92#8) 64 i).map b8), .blk g5 5 ((pre0 (hpad (shasum xs) 54#8) 64 i).map b8), .blk g4 22 ((shasum xs).map b8), .blk g1 22 ((List.replicate 32 0#8).map b8), .rd A 1 n c (xs.map b8), .rd B 1 nt d (ts.map b8)] ?_
 refine T_seq ?_
 refine lT ?_
 refine lM ?_
 refine lO (pr_cmp (bo := .lss) (nc_lt (a := i) (b := 64)) rfl rfl rfl rfl) ?_
 refine L_nil ?_
 refine T_cond (decide (i < 64)) rfl (fun hc_7 => ?_) (fun hc_7 => ?_)
 ·have hc_7 := of_decide_eq_true hc_7
  refine T_skip ?_
  refine T_seq ?_
  refine T_block ?_
  refine lT ?_
  refine lS ?_
  refine L_nil ?_
  refine T_seq ?_
  refine lT ?_
  refine lM ?_
  refine lM ?_
  refine lO (pr_len_sl Tryz.underlying27 rfl rfl) ?_
  refine lO (pr_cmp (bo := .lss) (nc_lt (a := i) (b := 32)) rfl rfl rfl rfl) ?_
  refine L_nil ?_
  refine T_cond (decide (i < 32)) rfl (fun hc_8 => ?_) (fun hc_8 => ?_)
  ·have hc_8 := of_decide_eq_true hc_8
   refine lR ?_
   refine lM ?_
   refine lM ?_
   refine lO (pr_ixb (j := i) (m' := i) sd oM Tryz.underlying27 (z := 1) kr rfl rfl rfl) ?_
   refine lQ (ld_blk 2 rfl (get8 sd) Tryz.underlying5 rfl rfl rfl) ?_
   refine lS ?_
   refine L_nil ?_
   refine lR ?_
   refine lM ?_
   refine lM ?_
   refine lM ?_
   refine lM ?_
   refine lM ?_
   refine lO (pr_xor (ib_xor8 _ (54#8)) rfl rfl rfl) ?_
   refine lM ?_
   refine lO (pr_xor (ib_xor8 _ (92#8)) rfl rfl rfl) ?_
   refine lO (pr_ixb (j := i) (m' := i) sd oM Tryz.underlying27 (z := 1) kr rfl rfl rfl) ?_
   refine L_op rfl (op_store (vs := [(b8 ((ath (shasum xs) i) ^^^ 54#8))]) (cs' := ((List.set (pre0 (hpad (shasum xs) 54#8) 64 i) i ((ath (shasum xs) i) ^^^ 54#8)).map b8)) 1 rfl rfl kr (one_one rfl) (stl sd) (splice_map (f := b8) sd) rfl rfl rfl rfl ?_)
   refine lO (pr_ixb (j := i) (m' := i) sd oM Tryz.underlying27 (z := 1) kr rfl rfl rfl) ?_
   refine L_op rfl (op_store (vs := [(b8 ((ath (shasum xs) i) ^^^ 92#8))]) (cs' := ((List.set (pre0 (hpad (shasum xs) 92#8) 64 i) i ((ath (shasum xs) i) ^^^ 92#8)).map b8)) 1 rfl rfl kr (one_one rfl) (stl sd) (splice_map (f := b8) sd) rfl rfl rfl rfl ?_)
   refine L_nil ?_
   refine lR ?_
   refine lM ?_
   refine lO (pr_add (na_i64 (a := i) (b := 1) sd) rfl rfl rfl) ?_
   refine lS ?_
   refine L_nil ?_
   refine T_as 0 _ (.blk g6 5 ((pre0 (hpad (shasum xs) 92#8) 64 (i + 1)).map b8)) rfl (by rw [hpre_set _ _ _ i oM (by rfl)]) ?_
   refine T_as 1 _ (.blk g5 5 ((pre0 (hpad (shasum xs) 54#8) 64 (i + 1)).map b8)) rfl (by rw [hpre_set _ _ _ i oM (by rfl)]) ?_
   exact T_again (i + 1) pN pN (sc rfl (sc rfl (sc rfl (sc rfl (sc rfl (sc rfl sn)))))) [1, 0, 2, 3, 4, 5] ⟨by decide, rfl⟩
  have hc_8 := of_decide_eq_false hc_8
  refine T_skip ?_
  refine lR ?_
  refine lM ?_
  refine lM ?_
  refine lM ?_
  refine lM ?_
  refine lM ?_
  refine lO (pr_xor (ib_xor8 (0#8) (54#8)) rfl rfl rfl) ?_
  refine lM ?_
  refine lO (pr_xor (ib_xor8 (0#8) (92#8)) rfl rfl rfl) ?_
  refine lO (pr_ixb (j := i) (m' := i) sd oM Tryz.underlying27 (z := 1) kr rfl rfl rfl) ?_
  refine L_op rfl (op_store (vs := [(b8 (0#8 ^^^ 54#8))]) (cs' := ((List.set (pre0 (hpad (shasum xs) 54#8) 64 i) i (0#8 ^^^ 54#8)).map b8)) 1 rfl rfl kr (one_one rfl) (stl sd) (splice_map (f := b8) sd) rfl rfl rfl rfl ?_)
  refine lO (pr_ixb (j := i) (m' := i) sd oM Tryz.underlying27 (z := 1) kr rfl rfl rfl) ?_
  refine L_op rfl (op_store (vs := [(b8 (0#8 ^^^ 92#8))]) (cs' := ((List.set (pre0 (hpad (shasum xs) 92#8) 64 i) i (0#8 ^^^ 92#8)).map b8)) 1 rfl rfl kr (one_one rfl) (stl sd) (splice_map (f := b8) sd) rfl rfl rfl rfl ?_)
  refine L_nil ?_
  refine lR ?_
  refine lM ?_
  refine lO (pr_add (na_i64 (a := i) (b := 1) sd) rfl rfl rfl) ?_
  refine lS ?_
  refine L_nil ?_
  refine T_as 0 _ (.blk g6 5 ((pre0 (hpad (shasum xs) 92#8) 64 (i + 1)).map b8)) rfl (by rw [hpre_set _ _ _ i oM (by rw [ath_out _ _ oM])]) ?_
  refine T_as 1 _ (.blk g5 5 ((pre0 (hpad (shasum xs) 54#8) 64 (i + 1)).map b8)) rfl (by rw [hpre_set _ _ _ i oM (by rw [ath_out _ _ oM])]) ?_
  exact T_again (i + 1) pN pN (sc rfl (sc rfl (sc rfl (sc rfl (sc rfl (sc rfl sn)))))) [1, 0, 2, 3, 4, 5] ⟨by decide, rfl⟩
 have hc_7 := of_decide_eq_false hc_7
 refine T_exit rfl ?_
 obtain rfl : 64 = i := by omega
 refine T_as 0 _ (.blk g6 5 (((hpad (shasum xs) 92#8)).map b8)) rfl (by rw [pre0_all _ _ aS]) ?_
 refine T_as 1 _ (.blk g5 5 (((hpad (shasum xs) 54#8)).map b8)) rfl (by rw [pre0_all _ _ aS]) ?_
 refine lT ?_
 refine lM ?_
 refine lM ?_
 refine T_rowb 0 (zs := (((hpad (shasum xs) 54#8)).map b8)) 1 64 64 rfl sd sd sd (by rw [List.take_of_length_le sd]) ?_
 refine L_op rfl (op_append (z := (b8 (0#8))) (size := 1) (bytes := 1) 0 rfl Tryz.underlying27 kr kr (by decide) (src_rd 5 rfl) (all8_one _) sd sd rfl rfl rfl rfl rfl (fun A9 C10 => ?_))
 refine T_as 0 _ (.row (.slice A9 (64 + nt) C10) 5 1 (64 + nt) ((((hpad (shasum xs) 54#8)) ++ ts).map b8)) rfl (by congr 1; simp; done) ?_
 refine L_op rfl (op_cn (fun w hw => rsum_f (((hpad (shasum xs) 54#8)) ++ ts) A9 (64 + nt) C10 w (hok_cons ((src_row 0 rfl) w hw) (hok_nil w)) (by simp; omega) sd) (enters_of Tryz.func97 kr rfl) rfl rfl rfl rfl rfl (fun t11 q12 => ?_))
 refine L_op rfl (op_alloc (z := .agg ((List.replicate 32 0#8).map b8).toArray) (zs := ((List.replicate 32 0#8).map b8)) kr rfl rfl rfl rfl (fun g13 => ?_))
 refine L_op rfl (op_sto (n := 32) (vs := ((shasum (((hpad (shasum xs) 54#8)) ++ ts)).map b8)) 0 rfl rfl kr (all8_one _) kr sd rfl rfl rfl rfl ?_)
 refine lN ?_
 refine lM ?_
 refine lO (pr_sla (l := 0) (u := 32) (m := 0) sd sd sd rfl Tryz.underlying22 (z := 1) kr rfl rfl rfl rfl) ?_
 refine T_rowb 2 (zs := (((hpad (shasum xs) 92#8)).map b8)) 1 64 64 rfl sd sd sd (by rw [List.take_of_length_le sd]) ?_
 refine L_op rfl (op_append (z := (b8 (0#8))) (size := 1) (bytes := 1) 0 rfl Tryz.underlying27 kr kr (by decide) (src_full (z := 1) 1 rfl sd sd sd) (all8_one _) sd sd rfl rfl rfl rfl rfl (fun A14 C15 => ?_))
 refine T_as 0 _ (.row (.slice A14 96 C15) 5 1 96 ((((hpad (shasum xs) 92#8)) ++ (shasum (((hpad (shasum xs) 54#8)) ++ ts))).map b8)) rfl (by congr 1; simp; done) ?_
 refine T_slot 47 (.slice A14 (64 + 32) C15) (.slice A14 96 C15) rfl rfl ?_
 refine L_op rfl (op_cn (fun w hw => rsum_f (((hpad (shasum xs) 92#8)) ++ (shasum (((hpad (shasum xs) 54#8)) ++ ts))) A14 96 C15 w (hok_cons ((src_row 0 rfl) w hw) (hok_nil w)) (by simp; omega) sd) (enters_of Tryz.func97 kr rfl) rfl rfl rfl rfl rfl (fun t16 q17 => ?_))
 refine L_op rfl (op_sto (n := 32) (vs := ((shasum (((hpad (shasum xs) 92#8)) ++ (shasum (((hpad (shasum xs) 54#8)) ++ ts)))).map b8)) 4 rfl rfl kr (all8_one _) kr sd rfl rfl rfl rfl ?_)
 refine L_nil ?_
 refine T_ret ?_
 refine T_as 0 _ (.blk g1 22 ((mactag xs ts).map b8)) rfl (by rw [mactag_long xs ts oM]) ?_
 exact T_fin () qN (resb 0 rfl rfl rfl Tryz.underlying22 rfl (fwz (n := 32) kr sd)) [] ⟨by decide, rfl⟩ rfl
theorem tag_f (xs : List (BitVec 8)) (A : Option Addr) (n : Nat) (c : Nat) (Q : List Pt) (B : Option Addr) (nq : Nat) (d : Nat) (w : World) (hO : HOK [.rd A 1 n c (xs.map b8), .rd B 1 nq d (Q.map Pt.sl), .all Q] w) (hx : xs.length = n) (hn : n ≤ 900000000) (hQ : Q.length = nq) (hm : nq ≤ 100000000) (hs : (catp Q).length ≤ 900000000) : Calls Tryz.prog 91 [(.slice A n c), (.slice B nq d)].toArray w (Ret (T := Unit) [] w (fun _ => True) (fun _ => (.agg ((mactag xs (catp Q)).map b8).toArray)) (fun _ => [])) := by
  by_cases h : n ≤ 64
  · exact tag_s_f xs A n c Q B nq d w hO hx h hQ hm hs
  · exact tag_l_f xs A n c Q B nq d w hO hx ⟨by omega, hn⟩ hQ hm hs
theorem rtag_f (xs : List (BitVec 8)) (A : Option Addr) (n : Nat) (c : Nat) (ts : List (BitVec 8)) (B : Option Addr) (nt : Nat) (d : Nat) (w : World) (hO : HOK [.rd A 1 n c (xs.map b8), .rd B 1 nt d (ts.map b8)] w) (hx : xs.length = n) (hn : n ≤ 900000000) (ht : ts.length = nt) (hnt : nt ≤ 900000000) : Calls Tryz.prog 89 [(.slice A n c), (.slice B nt d)].toArray w (Ret (T := Unit) [] w (fun _ => True) (fun _ => (.agg ((mactag xs ts).map b8).toArray)) (fun _ => [])) := by
  by_cases h : n ≤ 64
  · exact rtag_s_f xs A n c ts B nt d w hO hx h ht hnt
  · exact rtag_l_f xs A n c ts B nt d w hO hx ⟨by omega, hn⟩ ht hnt
end Go.Proofs.YtlplpmkdebemnaaGreat
namespace Go.Proofs.YtlplpmkdebemnaaGreat
open Bv Fw
def hkpc (key info : List (BitVec 8)) : Nat → List (BitVec 8)
  | 0 => []
  | k + 1 => mactag key (hkpc key info k ++ info ++ [BitVec.ofNat 8 (k + 1)])
def hkout (key info : List (BitVec 8)) : Nat → List (BitVec 8)
  | 0 => []
  | k + 1 => hkout key info k ++ hkpc key info (k + 1)
theorem hkpc_zero (key info : List (BitVec 8)) : hkpc key info 0 = [] := rfl
theorem hkpc_succ (key info : List (BitVec 8)) (k : Nat) : hkpc key info (k + 1) = mactag key (hkpc key info k ++ info ++ [BitVec.ofNat 8 (k + 1)]) := rfl
theorem hkout_zero (key info : List (BitVec 8)) : hkout key info 0 = [] := rfl
theorem hkout_succ (key info : List (BitVec 8)) (k : Nat) : hkout key info (k + 1) = hkout key info k ++ hkpc key info (k + 1) := rfl
theorem hkpc_len (key info : List (BitVec 8)) (k : Nat) : (hkpc key info (k + 1)).length = 32 := mactag_len _ _
theorem hkpc_le (key info : List (BitVec 8)) : ∀ k, (hkpc key info k).length ≤ 32
  | 0 => Nat.zero_le _
  | k + 1 => Nat.le_of_eq (hkpc_len key info k)
theorem hkout_len (key info : List (BitVec 8)) : ∀ k, (hkout key info k).length = 32 * k
  | 0 => rfl
  | k + 1 => by rw [hkout, List.length_append, hkout_len key info k, hkpc_len]; omega
theorem hkout_take (key info : List (BitVec 8)) (k : Nat) : ∀ j, (hkout key info (k + j)).take (32 * k) = hkout key info k
  | 0 => List.take_of_length_le (by rw [hkout_len]; omega)
  | j + 1 => by
    rw [show k + (j + 1) = (k + j) + 1 by omega, hkout, List.take_append_of_le_length (by rw [hkout_len]; omega), hkout_take key info k j]
def hkdf (key info : List (BitVec 8)) (n : Nat) : List (BitVec 8) := (hkout key info 255).take n
theorem hkdf_of (key info : List (BitVec 8)) (n k : Nat) (h : n ≤ 32 * k) (hk : k ≤ 255) : (hkout key info k).take n = hkdf key info n := by
  unfold hkdf
  have := hkout_take key info k (255 - k)
  rw [show k + (255 - k) = 255 by omega] at this
  rw [← this, List.take_take, Nat.min_eq_left h]
theorem hkdf_len (key info : List (BitVec 8)) (n : Nat) (h : n ≤ 8160) : (hkdf key info n).length = n := by
  unfold hkdf; rw [List.length_take, hkout_len]; omega
attribute [irreducible] hkpc hkout hkdf
end Go.Proofs.YtlplpmkdebemnaaGreat
