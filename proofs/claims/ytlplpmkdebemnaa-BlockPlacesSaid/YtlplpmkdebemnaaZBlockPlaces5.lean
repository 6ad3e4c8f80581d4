/- Walks by facts, part 5: what the functions that the law reaches answer. No conditions but lengths. -/
import Derived.Test.YtlplpmkdebemnaaZBlockPlaces4
import Derived.Test.YtlplpmkdebemnaaProg
import Derived.Lib.ConvBytes
import Derived.ArgAppend
namespace Go.Proofs.Ytlplpmkdebemnaa
set_option linter.unusedVariables false
set_option linter.unusedSimpArgs false
set_option linter.unnecessarySimpa false
set_option maxRecDepth 100000
open Go.RowKit Bv Fw

set_option maxHeartbeats 4000000 in
theorem words_f  (w : World) (hO : HOK [] w)  : Calls Try.prog 107 [].toArray w (Ret (T := Unit) [] w (fun _ => True) (fun _ => (.agg (shaK.map b32).toArray)) (fun _ => [])) := by
 have hkl := shaK_len
 have hF : Wid Fence.wide := wid_wide
 refine enter (c := _) Try.func107 rfl [] _ [] (by rw [Try.ntmps107]; rfl) (own_rds hO rfl) ?_
 rw [Try.ntmps107]
 refine T_re [] sn ?_
 refine T_he [] [] ⟨by decide, rfl⟩ ?_
 refine Tsr hF rfl ?_
 refine L_op rfl (op_alloc (z := .agg ((List.replicate 64 0#32).map b32).toArray) (zs := ((List.replicate 64 0#32).map b32)) kr rfl rfl rfl rfl (fun g1 => ?_))
 refine L_nil ?_
 refine Tsr hF rfl ?_
 refine lo rfl (pr_build (qs := [(0, (b32 (1116352408#32))), (1, (b32 (1899447441#32))), (2, (b32 (3049323471#32))), (3, (b32 (3921009573#32))), (4, (b32 (961987163#32))), (5, (b32 (1508970993#32))), (6, (b32 (2453635748#32))), (7, (b32 (2870763221#32))), (8, (b32 (3624381080#32))), (9, (b32 (310598401#32))), (10, (b32 (607225278#32))), (11, (b32 (1426881987#32))), (12, (b32 (1925078388#32))), (13, (b32 (2162078206#32))), (14, (b32 (2614888103#32))), (15, (b32 (3248222580#32))), (16, (b32 (3835390401#32))), (17, (b32 (4022224774#32))), (18, (b32 (264347078#32))), (19, (b32 (604807628#32))), (20, (b32 (770255983#32))), (21, (b32 (1249150122#32))), (22, (b32 (1555081692#32))), (23, (b32 (1996064986#32))), (24, (b32 (2554220882#32))), (25, (b32 (2821834349#32))), (26, (b32 (2952996808#32))), (27, (b32 (3210313671#32))), (28, (b32 (3336571891#32))), (29, (b32 (3584528711#32))), (30, (b32 (113926993#32))), (31, (b32 (338241895#32))), (32, (b32 (666307205#32))), (33, (b32 (773529912#32))), (34, (b32 (1294757372#32))), (35, (b32 (1396182291#32))), (36, (b32 (1695183700#32))), (37, (b32 (1986661051#32))), (38, (b32 (2177026350#32))), (39, (b32 (2456956037#32))), (40, (b32 (2730485921#32))), (41, (b32 (2820302411#32))), (42, (b32 (3259730800#32))), (43, (b32 (3345764771#32))), (44, (b32 (3516065817#32))), (45, (b32 (3600352804#32))), (46, (b32 (4094571909#32))), (47, (b32 (275423344#32))), (48, (b32 (430227734#32))), (49, (b32 (506948616#32))), (50, (b32 (659060556#32))), (51, (b32 (883997877#32))), (52, (b32 (958139571#32))), (53, (b32 (1322822218#32))), (54, (b32 (1537002063#32))), (55, (b32 (1747873779#32))), (56, (b32 (1955562222#32))), (57, (b32 (2024104815#32))), (58, (b32 (2227730452#32))), (59, (b32 (2361852424#32))), (60, (b32 (2428436474#32))), (61, (b32 (2756734187#32))), (62, (b32 (3204031479#32))), (63, (b32 (3329325298#32)))]) (v := .agg ([1116352408#32, 1899447441#32, 3049323471#32, 3921009573#32, 961987163#32, 1508970993#32, 2453635748#32, 2870763221#32, 3624381080#32, 310598401#32, 607225278#32, 1426881987#32, 1925078388#32, 2162078206#32, 2614888103#32, 3248222580#32, 3835390401#32, 4022224774#32, 264347078#32, 604807628#32, 770255983#32, 1249150122#32, 1555081692#32, 1996064986#32, 2554220882#32, 2821834349#32, 2952996808#32, 3210313671#32, 3336571891#32, 3584528711#32, 113926993#32, 338241895#32, 666307205#32, 773529912#32, 1294757372#32, 1396182291#32, 1695183700#32, 1986661051#32, 2177026350#32, 2456956037#32, 2730485921#32, 2820302411#32, 3259730800#32, 3345764771#32, 3516065817#32, 3600352804#32, 4094571909#32, 275423344#32, 430227734#32, 506948616#32, 659060556#32, 883997877#32, 958139571#32, 1322822218#32, 1537002063#32, 1747873779#32, 1955562222#32, 2024104815#32, 2227730452#32, 2361852424#32, 2428436474#32, 2756734187#32, 3204031479#32, 3329325298#32].map b32).toArray) (fun _ => by kernel_rfl) rfl rfl) rfl rfl ?_
 refine L_op rfl (op_sto (n := 64) (vs := ([1116352408#32, 1899447441#32, 3049323471#32, 3921009573#32, 961987163#32, 1508970993#32, 2453635748#32, 2870763221#32, 3624381080#32, 310598401#32, 607225278#32, 1426881987#32, 1925078388#32, 2162078206#32, 2614888103#32, 3248222580#32, 3835390401#32, 4022224774#32, 264347078#32, 604807628#32, 770255983#32, 1249150122#32, 1555081692#32, 1996064986#32, 2554220882#32, 2821834349#32, 2952996808#32, 3210313671#32, 3336571891#32, 3584528711#32, 113926993#32, 338241895#32, 666307205#32, 773529912#32, 1294757372#32, 1396182291#32, 1695183700#32, 1986661051#32, 2177026350#32, 2456956037#32, 2730485921#32, 2820302411#32, 3259730800#32, 3345764771#32, 3516065817#32, 3600352804#32, 4094571909#32, 275423344#32, 430227734#32, 506948616#32, 659060556#32, 883997877#32, 958139571#32, 1322822218#32, 1537002063#32, 1747873779#32, 1955562222#32, 2024104815#32, 2227730452#32, 2361852424#32, 2428436474#32, 2756734187#32, 3204031479#32, 3329325298#32].map b32)) 0 rfl rfl kr (all32_one _) kr kr rfl rfl rfl rfl ?_)
 refine L_nil ?_
 refine T_ret ?_
 refine T_as 0 _ (.blk g1 159 (shaK.map b32)) rfl (by unfold shaK; rfl) ?_
 exact T_fin () (by first | trivial | omega | (simp; done)) (resb 0 rfl rfl rfl Try.underlying159 rfl (fwz (n := 64) kr sd)) [] ⟨by decide, rfl⟩ rfl
set_option maxHeartbeats 4000000 in
theorem rotl32_f (x : BitVec 32) (k : Int) (s : Nat) (w : World) (hO : HOK [] w) (hs : s < 32) (hk : k % 32 = (s : Int)) : Calls Try.prog 98 [(b32 x), (.int .i64 k)].toArray w (Ret (T := Unit) [] w (fun _ => True) (fun _ => (b32 (rol32 x s))) (fun _ => [])) := by
 have hF : Wid Fence.wide := wid_wide
 refine enter (c := _) Try.func98 rfl [] _ [] (by rw [Try.ntmps98]; rfl) (own_rds hO rfl) ?_
 rw [Try.ntmps98]
 refine T_re [(0, (b32 x)), (1, (.int .i64 k))] (sc rfl (sc rfl sn)) ?_
 refine T_he [] [] ⟨by decide, rfl⟩ ?_
 refine Tsr hF rfl ?_
 refine la rfl rfl rfl rfl rfl ?_
 refine L_nil ?_
 refine Tsr hF rfl ?_
 refine lm rfl rfl rfl rfl rfl ?_
 refine lo rfl (pr_cv (zc_u64 k) Try.underlying3 Try.underlying22 rfl rfl) rfl rfl ?_
 refine lo rfl (pr_and (ib_and64 _ (31#64)) rfl rfl rfl) rfl rfl ?_
 refine la rfl rfl rfl rfl rfl ?_
 refine L_nil ?_
 refine Tsr hF rfl ?_
 refine lm rfl rfl rfl rfl rfl ?_
 refine lm rfl rfl rfl rfl rfl ?_
 refine lo rfl (pr_shift (sh_shl32 x _ (((BitVec.ofInt 64 k) &&& 31#64).toNat)) rfl rfl rfl rfl) rfl rfl ?_
 refine lm rfl rfl rfl rfl rfl ?_
 refine lm rfl rfl rfl rfl rfl ?_
 refine lo rfl (pr_sub (sub64 (32#64) _) rfl rfl rfl) rfl rfl ?_
 refine lo rfl (pr_shift (sh_shr32 x _ ((32#64 - ((BitVec.ofInt 64 k) &&& 31#64)).toNat)) rfl rfl rfl rfl) rfl rfl ?_
 refine lo rfl (pr_or (ib_or32 _ _) rfl rfl rfl) rfl rfl ?_
 refine la rfl rfl rfl rfl rfl ?_
 refine L_nil ?_
 refine T_ret ?_
 refine T_slot 4 _ (b32 (rol32 x s)) rfl (by rw [rot_and k s hs hk]; exact congrArg b32 (rol32_and x s hs)) ?_
 exact T_fin () (by first | trivial | omega | (simp; done)) (res1 rfl rfl) [] ⟨by decide, rfl⟩ rfl
set_option maxHeartbeats 4000000 in
theorem rotated_f (x : BitVec 32) (n : Nat) (w : World) (hO : HOK [] w) (h0 : 0 < n) (h1 : n < 32) : Calls Try.prog 112 [(b32 x), (.int .i64 ((n : Nat) : Int))].toArray w (Ret (T := Unit) [] w (fun _ => True) (fun _ => (b32 (ror32 x n))) (fun _ => [])) := by
 have hF : Wid Fence.wide := wid_wide
 refine enter (c := _) Try.func112 rfl [] _ [] (by rw [Try.ntmps112]; rfl) (own_rds hO rfl) ?_
 rw [Try.ntmps112]
 refine T_re [(0, (b32 x)), (1, (.int .i64 ((n : Nat) : Int)))] (sc rfl (sc rfl sn)) ?_
 refine T_he [] [] ⟨by decide, rfl⟩ ?_
 refine Tsr hF rfl ?_
 refine la rfl rfl rfl rfl rfl ?_
 refine L_nil ?_
 refine Tsr hF rfl ?_
 refine lm rfl rfl rfl rfl rfl ?_
 refine lm rfl rfl rfl rfl rfl ?_
 refine lo rfl (pr_un (un_negi (a := n) sd) rfl rfl) rfl rfl ?_
 refine L_op rfl (op_cn (fun w hw => rotl32_f x (-((n : Nat) : Int)) (32 - n) w (hok_nil w) sd (by omega)) (enters_of Try.func98 kr rfl) rfl rfl rfl rfl rfl (fun t1 q2 => ?_))
 refine la rfl rfl rfl rfl rfl ?_
 refine L_nil ?_
 refine T_ret ?_
 refine T_slot 4 (b32 (rol32 x (32 - n))) (b32 (ror32 x n)) rfl (by rw [rol_ror x n h0 h1]) ?_
 exact T_fin () (by first | trivial | omega | (simp; done)) (res1 rfl rfl) [] ⟨by decide, rfl⟩ rfl
set_option maxHeartbeats 4000000 in
theorem pad_f (n : Nat) (w : World) (hO : HOK [] w) (hn : n ≤ 1100000000000) : Calls Try.prog 106 [(.int .i64 ((n : Nat) : Int))].toArray w (Ret (T := Option Addr × Nat) [] w (fun ⟨B, d⟩ => True) (fun ⟨B, d⟩ => (.slice B (plen n) d)) (fun ⟨B, d⟩ => [.row (.slice B (plen n) d) 5 1 (plen n) ((padb n).map b8)])) := by
 have hF : Wid Fence.wide := wid_wide
 refine enter (c := _) Try.func106 rfl [] _ [] (by rw [Try.ntmps106]; rfl) (own_rds hO rfl) ?_
 rw [Try.ntmps106]
 refine T_re [(0, (.int .i64 ((n : Nat) : Int)))] (sc rfl sn) ?_
 refine T_he [] [] ⟨by decide, rfl⟩ ?_
 refine Tsr hF rfl ?_
 refine la rfl rfl rfl rfl rfl ?_
 refine L_nil ?_
 refine Tsr hF rfl ?_
 refine lm rfl rfl rfl rfl rfl ?_
 refine lo rfl ((pr_as (pr_max rfl rfl rfl) (nmax (k := .i64) (a := n) (b := 0)))) rfl rfl ?_
 refine la rfl rfl rfl rfl rfl ?_
 refine L_nil ?_
 refine Tsr hF rfl ?_
 refine L_op rfl (op_bslice (e := 5) (zs := [(b8 (128#8))]) (qs := [(0, (b8 (128#8)))]) (fun _ => by kernel_rfl) rfl rfl rfl rfl (fun g1 => ?_))
 refine lm rfl rfl rfl rfl rfl ?_
 refine lo rfl (pr_rem (a := max n 0) (b := 64) sd rfl rfl rfl) rfl rfl ?_
 refine lo rfl (pr_sub (ns_i64 (a := 119) (b := (max n 0) % 64) sd sd) rfl rfl rfl) rfl rfl ?_
 refine lo rfl (pr_rem (a := 119 - ((max n 0) % 64)) (b := 64) sd rfl rfl rfl) rfl rfl ?_
 refine T_rowb 0 (zs := [(b8 (128#8))]) 1 1 1 rfl sd sd rfl rfl ?_
 refine L_op rfl (op_append0 (z := (b8 (0#8))) (bytes := 1) (m := (119 - ((max n 0) % 64)) % 64) 0 rfl Try.underlying23 Try.underlying3 kr rfl rfl sd sd rfl rfl rfl rfl rfl (fun A2 C3 => ?_))
 refine T_as 0 _ (.row (.slice A2 (1 + ((119 - ((max n 0) % 64)) % 64)) C3) 5 1 (1 + ((119 - ((max n 0) % 64)) % 64)) (([128#8] ++ (List.replicate ((119 - ((max n 0) % 64)) % 64) 0#8)).map b8)) rfl (by first | rfl | (congr 1; simp)) ?_
 refine la rfl rfl rfl rfl rfl ?_
 refine L_nil ?_
 refine Tsr hF rfl ?_
 refine lm rfl rfl rfl rfl rfl ?_
 refine lm rfl rfl rfl rfl rfl ?_
 refine lo rfl (pr_cv (nw64 (max n 0)) Try.underlying3 Try.underlying30 rfl rfl) rfl rfl ?_
 refine lo rfl (pr_mul (mul64 _ (8#64)) rfl rfl rfl) rfl rfl ?_
 refine L_op rfl (op_c1 0 rfl (fun w hw => putHigh_f ([128#8] ++ (List.replicate ((119 - ((max n 0) % 64)) % 64) 0#8)) ((BitVec.ofNat 64 (max n 0)) * 8#64) 8 A2 (1 + ((119 - ((max n 0) % 64)) % 64)) C3 w (hw _ (List.mem_of_getElem? (i := 0) rfl)) sd sd) (enters_of Try.func109 kr rfl) rfl rfl rfl rfl rfl (fun t4 q5 => ?_))
 obtain ⟨B6, d7⟩ := t4
 refine la rfl rfl rfl rfl rfl ?_
 refine L_nil ?_
 refine T_ret ?_
 refine T_slot 2 (.slice B6 ((1 + ((119 - ((max n 0) % 64)) % 64)) + 8) d7) (.slice B6 (plen n) d7) rfl (by simp [plen]) ?_
 refine T_as 0 _ (.row (.slice B6 (plen n) d7) 5 1 (plen n) ((padb n).map b8)) rfl (by simp [padb, plen]) ?_
 exact T_fin (B6, d7) (by first | trivial | omega | (simp; done)) (res1 rfl rfl) [0] ⟨by decide, rfl⟩ rfl
end Go.Proofs.Ytlplpmkdebemnaa
namespace Go.Proofs.Ytlplpmkdebemnaa
set_option linter.unusedVariables false
set_option linter.unusedSimpArgs false
set_option linter.unnecessarySimpa false
set_option maxRecDepth 100000
open Go.RowKit Bv Fw

set_option maxHeartbeats 4000000 in
theorem schedule_f (b : List (BitVec 8)) (A : Option Addr) (c : Nat) (w : World) (hO : HOK [.rd A 1 64 c (b.map b8)] w) (hb : b.length = 64) : Calls Try.prog 111 [(.slice A 64 c)].toArray w (Ret (T := Unit) [] w (fun _ => True) (fun _ => (.agg ((schw b 64).map b32).toArray)) (fun _ => [])) := by
 have hwl := schw_len b 64
 have hF : Wid Fence.wide := wid_wide
 refine enter (c := _) Try.func111 rfl [] _ [.rd A 1 64 c (b.map b8)] (by rw [Try.ntmps111]; rfl) (own_rds hO rfl) ?_
 rw [Try.ntmps111]
 refine T_re [(0, (.slice A 64 c))] (sc rfl sn) ?_
 refine T_he [0] [.rd A 1 64 c (b.map b8)] ⟨by decide, rfl⟩ ?_
 refine Tsr hF rfl ?_
 refine L_op rfl (op_alloc (z := .agg ((List.replicate 64 0#32).map b32).toArray) (zs := ((List.replicate 64 0#32).map b32)) kr rfl rfl rfl rfl (fun g1 => ?_))
 refine L_nil ?_
 refine T_scope rfl ?_
 refine Tsr hF rfl ?_
 refine L_op rfl (op_alloc (z := .agg ((List.replicate 64 0#32).map b32).toArray) (zs := ((List.replicate 64 0#32).map b32)) kr rfl rfl rfl rfl (fun g2 => ?_))
 refine L_nil ?_
 refine T_seq ?_
 refine T_label ?_
 refine T_seq ?_
 refine Tsr hF rfl ?_
 refine lm rfl rfl rfl rfl rfl ?_
 refine L_nil ?_
 refine T_block ?_
 refine T_as 0 _ (.blk g2 159 ((fil (schw b 0) 64).map b32)) rfl (by rw [← fil_zero]) ?_
 refine T_loop (T := Nat) (fun k => k ≤ 64) (fun k => [(0, (.slice A 64 c)), (2, (.pointer (some ⟨g1, 0, none⟩))), (3, (.pointer (some ⟨g2, 0, none⟩))), (7, (.int .i64 ((k : Nat) : Int)))]) (fun k => [.blk g2 159 ((fil (schw b k) 64).map b32), .blk g1 159 ((List.replicate 64 0#32).map b32), .rd A 1 64 c (b.map b8)]) (fun k => 64 - k) 0 (by first | trivial | ((try dsimp only); first | omega | (refine ⟨?_, ?_⟩ <;> omega) | (refine ⟨?_, ?_, ?_⟩ <;> omega) | (simp; done) | (simp; omega))) (sc rfl (sc rfl (sc rfl (sc rfl sn)))) [0, 1, 2] ⟨by decide, rfl⟩ ?_
 rintro k hp
 have hp : k ≤ 64 := hp
 have hl := fschw_len b k hp
 refine T_re [(0, (.slice A 64 c)), (2, (.pointer (some ⟨g1, 0, none⟩))), (3, (.pointer (some ⟨g2, 0, none⟩))), (7, (.int .i64 ((k : Nat) : Int)))] (sc rfl (sc rfl (sc rfl (sc rfl sn)))) ?_
 refine T_he [0, 1, 2] [.blk g2 159 ((fil (schw b k) 64).map b32), .blk g1 159 ((List.replicate 64 0#32).map b32), .rd A 1 64 c (b.map b8)] ⟨by decide, rfl⟩ ?_
 refine Tsr hF rfl ?_
 refine lo rfl (pr_cmp (bo := .lss) (nc_lt (a := k) (b := 64)) rfl rfl rfl rfl) rfl rfl ?_
 refine L_nil ?_
 refine T_seq ?_
 refine T_cond (decide (k < 64)) rfl (fun hc_3 => ?_) (fun hc_3 => ?_)
 ·
  have hc_3 := of_decide_eq_true hc_3
  refine T_skip ?_
  refine T_seq ?_
  refine T_block ?_
  refine Tsr hF rfl ?_
  refine lm rfl rfl rfl rfl rfl ?_
  refine la rfl rfl rfl rfl rfl ?_
  refine L_nil ?_
  refine T_seq ?_
  refine Tsr hF rfl ?_
  refine lm rfl rfl rfl rfl rfl ?_
  refine lo rfl (pr_cmp (bo := .lss) (nc_lt (a := k) (b := 16)) rfl rfl rfl rfl) rfl rfl ?_
  refine L_nil ?_
  refine T_cond (decide (k < 16)) rfl (fun hc_4 => ?_) (fun hc_4 => ?_)
  ·
   have hc_4 := of_decide_eq_true hc_4
   refine Tsr hF rfl ?_
   refine lm rfl rfl rfl rfl rfl ?_
   refine lm rfl rfl rfl rfl rfl ?_
   refine lm rfl rfl rfl rfl rfl ?_
   refine lo rfl (pr_mul (nm_i64 (a := 4) (b := k) sd) rfl rfl rfl) rfl rfl ?_
   refine L_op rfl (op_slice_rd (l := 4 * k) (u := 64) 2 rfl sd sd Try.underlying23 kr rfl rfl ⟨_, rfl⟩ rfl rfl rfl (fun B5 => ?_))
   refine T_as 0 _ (.rd B5 1 (64 - (4 * k)) (c - (4 * k)) ((List.drop (4 * k) b).map b8)) rfl (by congr 1; first | rfl | (rw [List.take_of_length_le (by simp; omega)]; simp)) ?_
   refine L_op rfl (op_cn (fun w hw => high_f (List.drop (4 * k) b) 4 B5 (64 - (4 * k)) (c - (4 * k)) w (hok_cons ((src_rd 0 rfl) w hw) (hok_nil w)) sd sd sd) (enters_of Try.func113 kr rfl) rfl rfl rfl rfl rfl (fun t6 q7 => ?_))
   refine lo rfl (pr_cv (cv64_32 _) Try.underlying30 Try.underlying112 rfl rfl) rfl rfl ?_
   refine lo rfl (pr_ixa (j := k) (m' := k) sd (by omega) Try.underlying159 (z := 1) kr rfl rfl rfl) rfl rfl ?_
   refine L_op rfl (op_store (vs := [(b32 ((high (List.drop (4 * k) b) 4).setWidth 32))]) (cs' := ((List.set (fil (schw b k) 64) k ((high (List.drop (4 * k) b) 4).setWidth 32)).map b32)) 1 rfl rfl kr (one_one rfl) (stl sd) (splice_map (f := b32) sd) rfl rfl rfl rfl ?_)
   refine L_nil ?_
   refine T_exit rfl ?_
   refine T_reg hF rfl ?_
   refine lo rfl (pr_add (na_i64 (a := k) (b := 1) sd) rfl rfl rfl) rfl rfl ?_
   refine lm rfl rfl rfl rfl rfl ?_
   refine L_nil ?_
   refine T_as 0 _ (.blk g2 159 ((fil (schw b (k + 1)) 64).map b32)) rfl (by rw [schw_lo b k (by omega)]) ?_
   exact T_again (k + 1) (by first | trivial | ((try dsimp only); first | omega | (refine ⟨?_, ?_⟩ <;> omega) | (refine ⟨?_, ?_, ?_⟩ <;> omega) | (simp; done) | (simp; omega))) (by first | trivial | ((try dsimp only); first | omega | (refine ⟨?_, ?_⟩ <;> omega) | (refine ⟨?_, ?_, ?_⟩ <;> omega) | (simp; done) | (simp; omega))) (sc rfl (sc rfl (sc rfl (sc rfl sn)))) [0, 2, 3] ⟨by decide, rfl⟩
  ·
   have hc_4 := of_decide_eq_false hc_4
   refine T_skip ?_
   refine T_seq ?_
   refine T_regD [.blk g2 159 ((fil (schw b k) 64).map b32), .blk g1 159 ((List.replicate 64 0#32).map b32), .rd A 1 64 c (b.map b8)] 10 10 #[false, false, false, false, false, false, false, false, false, false] hF kr kr ?_
   refine D_pure (i := 0) [0, 1, 2] rfl kr rfl (pr_move rfl rfl) (.inr rfl) rfl rfl ?_
   refine D_pure (i := 1) [0, 1, 2] rfl kr rfl (pr_sub (ns_i64 (a := k) (b := 15) sd sd) rfl rfl rfl) (.inr rfl) rfl rfl ?_
   refine D_pure (i := 2) [0, 1, 2] rfl kr rfl (pr_ixa (j := k - 15) (m' := k - 15) sd (by omega) Try.underlying159 (z := 1) kr rfl rfl rfl) (.inr rfl) rfl rfl ?_
   refine D_pure (i := 4) [0, 1, 2] rfl kr rfl (pr_move rfl rfl) (.inr rfl) rfl rfl ?_
   refine D_pure (i := 5) [0, 1, 2] rfl kr rfl (pr_sub (ns_i64 (a := k) (b := 2) sd sd) rfl rfl rfl) (.inr rfl) rfl rfl ?_
   refine D_pure (i := 6) [0, 1, 2] rfl kr rfl (pr_ixa (j := k - 2) (m' := k - 2) sd (by omega) Try.underlying159 (z := 1) kr rfl rfl rfl) (.inr rfl) rfl rfl ?_
   refine D_take (i := 3) [0, 1, 2] rfl kr rfl (ld_blk 0 rfl (get32 sd) Try.underlying112 rfl rfl rfl) rfl rfl rfl ?_
   refine D_pure (i := 8) [0, 1, 2] rfl kr rfl (pr_assign rfl rfl) (.inr rfl) rfl rfl ?_
   refine D_take (i := 7) [0, 1, 2] rfl kr rfl (ld_blk 0 rfl (get32 sd) Try.underlying112 rfl rfl rfl) rfl rfl rfl ?_
   refine D_pure (i := 9) [0, 1, 2] rfl kr rfl (pr_assign rfl rfl) (.inr rfl) rfl rfl ?_
   refine D_done kr ?_
   refine T_regD [.blk g2 159 ((fil (schw b k) 64).map b32), .blk g1 159 ((List.replicate 64 0#32).map b32), .rd A 1 64 c (b.map b8)] 29 30 #[false, false, false, false, false, false, false, false, false, false, false, false, false, false, false, false, false, false, false, false, false, false, false, false, false, false, false, false, false, false] hF kr kr ?_
   refine D_pure (i := 0) [0, 1, 2] rfl kr rfl (pr_move rfl rfl) (.inr rfl) rfl rfl ?_
   refine D_pure (i := 1) [0, 1, 2] rfl kr rfl (pr_move rfl rfl) (.inr rfl) rfl rfl ?_
   refine D_pure (i := 2) [0, 1, 2] rfl kr rfl (pr_sub (ns_i64 (a := k) (b := 16) sd sd) rfl rfl rfl) (.inr rfl) rfl rfl ?_
   refine D_pure (i := 3) [0, 1, 2] rfl kr rfl (pr_ixa (j := k - 16) (m' := k - 16) sd (by omega) Try.underlying159 (z := 1) kr rfl rfl rfl) (.inr rfl) rfl rfl ?_
   refine D_pure (i := 5) [0, 1, 2] rfl kr rfl (pr_move rfl rfl) (.inr rfl) rfl rfl ?_
   refine D_pure (i := 7) [0, 1, 2] rfl kr rfl (pr_move rfl rfl) (.inr rfl) rfl rfl ?_
   refine D_pure (i := 10) [0, 1, 2] rfl kr rfl (pr_move rfl rfl) (.inr rfl) rfl rfl ?_
   refine D_pure (i := 11) [0, 1, 2] rfl kr rfl (pr_shift (sh_shr32 (ath (fil (schw b k) 64) (k - 15)) _ 3) rfl rfl rfl rfl) (.inr rfl) rfl rfl ?_
   refine D_pure (i := 14) [0, 1, 2] rfl kr rfl (pr_move rfl rfl) (.inr rfl) rfl rfl ?_
   refine D_pure (i := 15) [0, 1, 2] rfl kr rfl (pr_sub (ns_i64 (a := k) (b := 7) sd sd) rfl rfl rfl) (.inr rfl) rfl rfl ?_
   refine D_pure (i := 16) [0, 1, 2] rfl kr rfl (pr_ixa (j := k - 7) (m' := k - 7) sd (by omega) Try.underlying159 (z := 1) kr rfl rfl rfl) (.inr rfl) rfl rfl ?_
   refine D_pure (i := 19) [0, 1, 2] rfl kr rfl (pr_move rfl rfl) (.inr rfl) rfl rfl ?_
   refine D_pure (i := 21) [0, 1, 2] rfl kr rfl (pr_move rfl rfl) (.inr rfl) rfl rfl ?_
   refine D_pure (i := 24) [0, 1, 2] rfl kr rfl (pr_move rfl rfl) (.inr rfl) rfl rfl ?_
   refine D_pure (i := 25) [0, 1, 2] rfl kr rfl (pr_shift (sh_shr32 (ath (fil (schw b k) 64) (k - 2)) _ 10) rfl rfl rfl rfl) (.inr rfl) rfl rfl ?_
   refine D_take (i := 4) [0, 1, 2] rfl kr rfl (ld_blk 0 rfl (get32 sd) Try.underlying112 rfl rfl rfl) rfl rfl rfl ?_
   refine D_take (i := 17) [0, 1, 2] rfl kr rfl (ld_blk 0 rfl (get32 sd) Try.underlying112 rfl rfl rfl) rfl rfl rfl ?_
   refine D_one 6 _ rfl kr rfl (op_cn (fun w hw => rotated_f (ath (fil (schw b k) 64) (k - 15)) 7 w (hok_nil w) sd sd) (enters_of Try.func112 kr rfl) rfl rfl rfl rfl rfl (fun t8 q9 => ?_))
   refine D_on [0, 1, 2] rfl ?_
   refine D_one 8 _ rfl kr rfl (op_cn (fun w hw => rotated_f (ath (fil (schw b k) 64) (k - 15)) 18 w (hok_nil w) sd sd) (enters_of Try.func112 kr rfl) rfl rfl rfl rfl rfl (fun t10 q11 => ?_))
   refine D_on [0, 1, 2] rfl ?_
   refine D_pure (i := 9) [0, 1, 2] rfl kr rfl (pr_xor (ib_xor32 _ _) rfl rfl rfl) (.inr rfl) rfl rfl ?_
   refine D_pure (i := 12) [0, 1, 2] rfl kr rfl (pr_xor (ib_xor32 _ _) rfl rfl rfl) (.inr rfl) rfl rfl ?_
   refine D_pure (i := 13) [0, 1, 2] rfl kr rfl (pr_add (add32 _ _) rfl rfl rfl) (.inr rfl) rfl rfl ?_
   refine D_pure (i := 18) [0, 1, 2] rfl kr rfl (pr_add (add32 _ _) rfl rfl rfl) (.inr rfl) rfl rfl ?_
   refine D_one 20 _ rfl kr rfl (op_cn (fun w hw => rotated_f (ath (fil (schw b k) 64) (k - 2)) 17 w (hok_nil w) sd sd) (enters_of Try.func112 kr rfl) rfl rfl rfl rfl rfl (fun t12 q13 => ?_))
   refine D_on [0, 1, 2] rfl ?_
   refine D_one 22 _ rfl kr rfl (op_cn (fun w hw => rotated_f (ath (fil (schw b k) 64) (k - 2)) 19 w (hok_nil w) sd sd) (enters_of Try.func112 kr rfl) rfl rfl rfl rfl rfl (fun t14 q15 => ?_))
   refine D_on [0, 1, 2] rfl ?_
   refine D_pure (i := 23) [0, 1, 2] rfl kr rfl (pr_xor (ib_xor32 _ _) rfl rfl rfl) (.inr rfl) rfl rfl ?_
   refine D_pure (i := 26) [0, 1, 2] rfl kr rfl (pr_xor (ib_xor32 _ _) rfl rfl rfl) (.inr rfl) rfl rfl ?_
   refine D_pure (i := 27) [0, 1, 2] rfl kr rfl (pr_add (add32 _ _) rfl rfl rfl) (.inr rfl) rfl rfl ?_
   refine D_pure (i := 28) [0, 1, 2] rfl kr rfl (pr_ixa (j := k) (m' := k) sd (by omega) Try.underlying159 (z := 1) kr rfl rfl rfl) (.inr rfl) rfl rfl ?_
   refine D_one 29 _ rfl kr rfl (op_store (vs := [(b32 ((((ath (fil (schw b k) 64) (k - 16)) + (((ror32 (ath (fil (schw b k) 64) (k - 15)) 7) ^^^ (ror32 (ath (fil (schw b k) 64) (k - 15)) 18)) ^^^ ((ath (fil (schw b k) 64) (k - 15)) >>> 3))) + (ath (fil (schw b k) 64) (k - 7))) + (((ror32 (ath (fil (schw b k) 64) (k - 2)) 17) ^^^ (ror32 (ath (fil (schw b k) 64) (k - 2)) 19)) ^^^ ((ath (fil (schw b k) 64) (k - 2)) >>> 10))))]) (cs' := ((List.set (fil (schw b k) 64) k ((((ath (fil (schw b k) 64) (k - 16)) + (((ror32 (ath (fil (schw b k) 64) (k - 15)) 7) ^^^ (ror32 (ath (fil (schw b k) 64) (k - 15)) 18)) ^^^ ((ath (fil (schw b k) 64) (k - 15)) >>> 3))) + (ath (fil (schw b k) 64) (k - 7))) + (((ror32 (ath (fil (schw b k) 64) (k - 2)) 17) ^^^ (ror32 (ath (fil (schw b k) 64) (k - 2)) 19)) ^^^ ((ath (fil (schw b k) 64) (k - 2)) >>> 10)))).map b32)) 0 rfl rfl kr (one_one rfl) (stl sd) (splice_map (f := b32) sd) rfl rfl rfl rfl ?_)
   refine D_past kr ?_
   refine D_done kr ?_
   refine T_reg hF rfl ?_
   refine lo rfl (pr_add (na_i64 (a := k) (b := 1) sd) rfl rfl rfl) rfl rfl ?_
   refine lm rfl rfl rfl rfl rfl ?_
   refine L_nil ?_
   refine T_as 0 _ (.blk g2 159 ((fil (schw b (k + 1)) 64).map b32)) rfl (by rw [sig0_def, sig1_def, schw_hi b k (by omega) (by omega) _ rfl]) ?_
   exact T_again (k + 1) (by first | trivial | ((try dsimp only); first | omega | (refine ⟨?_, ?_⟩ <;> omega) | (refine ⟨?_, ?_, ?_⟩ <;> omega) | (simp; done) | (simp; omega))) (by first | trivial | ((try dsimp only); first | omega | (refine ⟨?_, ?_⟩ <;> omega) | (refine ⟨?_, ?_, ?_⟩ <;> omega) | (simp; done) | (simp; omega))) (sc rfl (sc rfl (sc rfl (sc rfl sn)))) [0, 1, 2] ⟨by decide, rfl⟩
 ·
  have hc_3 := of_decide_eq_false hc_3
  refine T_exit rfl ?_
  refine Tsr hF rfl ?_
  refine lq rfl (ld_agg (ds := ((fil (schw b k) 64).map b32)) 0 rfl agg_all Try.underlying159 rfl (fwz (n := 64) kr sd) rfl rfl) rfl rfl ?_
  refine L_op rfl (op_sto (n := 64) (vs := ((fil (schw b k) 64).map b32)) 1 rfl rfl kr (all32_one _) kr sd rfl rfl rfl rfl ?_)
  refine L_nil ?_
  refine T_ret ?_
  obtain rfl : 64 = k := by omega
  refine T_as 0 _ (.blk g1 159 ((schw b 64).map b32)) rfl (by rw [fil_all]) ?_
  exact T_fin () (by first | trivial | omega | (simp; done)) (resb 0 rfl rfl rfl Try.underlying159 rfl (fwz (n := 64) kr sd)) [] ⟨by decide, rfl⟩ rfl
set_option maxHeartbeats 4000000 in
theorem mixed_f (s : List (BitVec 32)) (gk : Nat) (b : List (BitVec 8)) (A : Option Addr) (c : Nat) (w : World) (hO : HOK [.rd (some ⟨gk, 0, none⟩) 1 64 64 (shaK.map b32), .rd A 1 64 c (b.map b8)] w) (hs : s.length = 8) (hb : b.length = 64) : Calls Try.prog 108 [(.agg (s.map b32).toArray), (.pointer (some ⟨gk, 0, none⟩)), (.slice A 64 c)].toArray w (Ret (T := Unit) [] w (fun _ => True) (fun _ => (.agg ((mixb s b).map b32).toArray)) (fun _ => [])) := by
 have hwl := schw_len b 64
 have hmx := (mixb_len s b).trans hs
 have hkl : shaK.length = 64 := shaK_len
 have hrl := rounds_len s (schw b 64) hs
 have hal := fun a k => (addt_len s a k).trans hs
 have hF : Wid Fence.wide := wid_wide
 refine enter (c := _) Try.func108 rfl [] _ [.rd (some ⟨gk, 0, none⟩) 1 64 64 (shaK.map b32), .rd A 1 64 c (b.map b8)] (by rw [Try.ntmps108]; rfl) (own_rds hO rfl) ?_
 rw [Try.ntmps108]
 refine T_re [(0, (.agg (s.map b32).toArray)), (1, (.pointer (some ⟨gk, 0, none⟩))), (2, (.slice A 64 c))] (sc rfl (sc rfl (sc rfl sn))) ?_
 refine T_he [0, 1] [.rd (some ⟨gk, 0, none⟩) 1 64 64 (shaK.map b32), .rd A 1 64 c (b.map b8)] ⟨by decide, rfl⟩ ?_
 refine Tsr hF rfl ?_
 refine L_op rfl (op_box (zs := (s.map b32)) rfl rfl rfl rfl rfl (fun g1 => ?_))
 refine L_op rfl (op_alloc (z := .agg [(b32 (0#32)), (b32 (0#32)), (b32 (0#32)), (b32 (0#32)), (b32 (0#32)), (b32 (0#32)), (b32 (0#32)), (b32 (0#32))].toArray) (zs := [(b32 (0#32)), (b32 (0#32)), (b32 (0#32)), (b32 (0#32)), (b32 (0#32)), (b32 (0#32)), (b32 (0#32)), (b32 (0#32))]) kr rfl rfl rfl rfl (fun g2 => ?_))
 refine L_nil ?_
 refine T_seq ?_
 refine T_regD [.blk g2 161 [(b32 (0#32)), (b32 (0#32)), (b32 (0#32)), (b32 (0#32)), (b32 (0#32)), (b32 (0#32)), (b32 (0#32)), (b32 (0#32))], .blk g1 161 (s.map b32), .rd (some ⟨gk, 0, none⟩) 1 64 64 (shaK.map b32), .rd A 1 64 c (b.map b8)] 7 7 #[false, false, false, false, false, false, false] hF kr kr ?_
 refine D_pure (i := 1) [0, 1, 2, 3] rfl kr rfl (pr_move rfl rfl) (.inr rfl) rfl rfl ?_
 refine D_take (i := 0) [0, 1, 2, 3] rfl kr rfl (ld_agg (ds := (s.map b32)) 1 rfl agg_all Try.underlying161 rfl (fwz (n := 8) kr sd) rfl rfl) rfl rfl rfl ?_
 refine D_join (T := Nat × Nat) (fun _ => True) (fun ⟨g5, g6⟩ => [(1, (.pointer (some ⟨gk, 0, none⟩))), (3, (.pointer (some ⟨g1, 0, none⟩))), (6, (.pointer (some ⟨g2, 0, none⟩))), (7, (.pointer (some ⟨g5, 0, none⟩))), (8, (.pointer (some ⟨g6, 0, none⟩)))]) (fun ⟨g5, g6⟩ => [.blk g6 159 ((schw b 64).map b32), .blk g5 161 (s.map b32), .blk g2 161 [(b32 (0#32)), (b32 (0#32)), (b32 (0#32)), (b32 (0#32)), (b32 (0#32)), (b32 (0#32)), (b32 (0#32)), (b32 (0#32))], .blk g1 161 (s.map b32), .rd (some ⟨gk, 0, none⟩) 1 64 64 (shaK.map b32), .rd A 1 64 c (b.map b8)]) ?_ ?_
 ·
  refine D_all [2, 3, 4] kr (by simp) ⟨⟨_, rfl, rfl, ?_⟩, ⟨_, rfl, rfl, ?_⟩, ⟨_, rfl, rfl, ?_⟩, trivial⟩
  ·
   refine id (op_cn (fun w hw => schedule_f b A c w (hok_cons ((src_rd 3 rfl) w hw) (hok_nil w)) sd) (enters_of Try.func111 kr rfl) rfl rfl rfl rfl rfl (fun t7 q8 => ?_))
   refine D_on [0, 1, 2, 3] rfl ?_
   refine D_all [3, 4] kr (by simp) ⟨⟨_, rfl, rfl, ?_⟩, ⟨_, rfl, rfl, ?_⟩, trivial⟩
   ·
    refine id (op_alloc (z := .agg [(b32 (0#32)), (b32 (0#32)), (b32 (0#32)), (b32 (0#32)), (b32 (0#32)), (b32 (0#32)), (b32 (0#32)), (b32 (0#32))].toArray) (zs := [(b32 (0#32)), (b32 (0#32)), (b32 (0#32)), (b32 (0#32)), (b32 (0#32)), (b32 (0#32)), (b32 (0#32)), (b32 (0#32))]) kr rfl rfl rfl rfl (fun g9 => ?_))
    refine D_on [1, 2, 3, 4] rfl ?_
    refine D_one 4 _ rfl kr rfl (op_alloc (z := .agg ((List.replicate 64 0#32).map b32).toArray) (zs := ((List.replicate 64 0#32).map b32)) kr rfl rfl rfl rfl (fun g10 => ?_))
    refine D_on [2, 3, 4, 5] rfl ?_
    refine D_one 5 _ rfl kr rfl (op_sto (n := 8) (vs := (s.map b32)) 1 rfl rfl kr (all32_one _) kr sd rfl rfl rfl rfl ?_)
    refine D_on [2, 3, 4, 5] rfl ?_
    refine D_one 6 _ rfl kr rfl (op_sto (n := 64) (vs := ((schw b 64).map b32)) 1 rfl rfl kr (all32_one _) kr sd rfl rfl rfl rfl ?_)
    refine D_on [2, 3, 4, 5] rfl ?_
    refine D_done kr ?_
    exact T_meet (g9, g10) trivial (sc rfl (sc rfl (sc rfl (sc rfl (sc rfl sn))))) [0, 1, 2, 3, 4, 5] ⟨by decide, rfl⟩
   ·
    refine id (op_alloc (z := .agg ((List.replicate 64 0#32).map b32).toArray) (zs := ((List.replicate 64 0#32).map b32)) kr rfl rfl rfl rfl (fun g11 => ?_))
    refine D_on [1, 2, 3, 4] rfl ?_
    refine D_one 3 _ rfl kr rfl (op_alloc (z := .agg [(b32 (0#32)), (b32 (0#32)), (b32 (0#32)), (b32 (0#32)), (b32 (0#32)), (b32 (0#32)), (b32 (0#32)), (b32 (0#32))].toArray) (zs := [(b32 (0#32)), (b32 (0#32)), (b32 (0#32)), (b32 (0#32)), (b32 (0#32)), (b32 (0#32)), (b32 (0#32)), (b32 (0#32))]) kr rfl rfl rfl rfl (fun g12 => ?_))
    refine D_on [2, 3, 4, 5] rfl ?_
    refine D_one 5 _ rfl kr rfl (op_sto (n := 8) (vs := (s.map b32)) 0 rfl rfl kr (all32_one _) kr sd rfl rfl rfl rfl ?_)
    refine D_on [2, 3, 4, 5] rfl ?_
    refine D_one 6 _ rfl kr rfl (op_sto (n := 64) (vs := ((schw b 64).map b32)) 1 rfl rfl kr (all32_one _) kr sd rfl rfl rfl rfl ?_)
    refine D_on [2, 3, 4, 5] rfl ?_
    refine D_done kr ?_
    exact T_meet (g12, g11) trivial (sc rfl (sc rfl (sc rfl (sc rfl (sc rfl sn))))) [0, 1, 2, 3, 4, 5] ⟨by decide, rfl⟩
  ·
   refine id (op_alloc (z := .agg [(b32 (0#32)), (b32 (0#32)), (b32 (0#32)), (b32 (0#32)), (b32 (0#32)), (b32 (0#32)), (b32 (0#32)), (b32 (0#32))].toArray) (zs := [(b32 (0#32)), (b32 (0#32)), (b32 (0#32)), (b32 (0#32)), (b32 (0#32)), (b32 (0#32)), (b32 (0#32)), (b32 (0#32))]) kr rfl rfl rfl rfl (fun g13 => ?_))
   refine D_on [1, 2, 3, 4] rfl ?_
   refine D_all [2, 4] kr (by simp) ⟨⟨_, rfl, rfl, ?_⟩, ⟨_, rfl, rfl, ?_⟩, trivial⟩
   ·
    refine id (op_cn (fun w hw => schedule_f b A c w (hok_cons ((src_rd 4 rfl) w hw) (hok_nil w)) sd) (enters_of Try.func111 kr rfl) rfl rfl rfl rfl rfl (fun t14 q15 => ?_))
    refine D_on [1, 2, 3, 4] rfl ?_
    refine D_one 4 _ rfl kr rfl (op_alloc (z := .agg ((List.replicate 64 0#32).map b32).toArray) (zs := ((List.replicate 64 0#32).map b32)) kr rfl rfl rfl rfl (fun g16 => ?_))
    refine D_on [2, 3, 4, 5] rfl ?_
    refine D_one 5 _ rfl kr rfl (op_sto (n := 8) (vs := (s.map b32)) 1 rfl rfl kr (all32_one _) kr sd rfl rfl rfl rfl ?_)
    refine D_on [2, 3, 4, 5] rfl ?_
    refine D_one 6 _ rfl kr rfl (op_sto (n := 64) (vs := ((schw b 64).map b32)) 1 rfl rfl kr (all32_one _) kr sd rfl rfl rfl rfl ?_)
    refine D_on [2, 3, 4, 5] rfl ?_
    refine D_done kr ?_
    exact T_meet (g13, g16) trivial (sc rfl (sc rfl (sc rfl (sc rfl (sc rfl sn))))) [0, 1, 2, 3, 4, 5] ⟨by decide, rfl⟩
   ·
    refine id (op_alloc (z := .agg ((List.replicate 64 0#32).map b32).toArray) (zs := ((List.replicate 64 0#32).map b32)) kr rfl rfl rfl rfl (fun g17 => ?_))
    refine D_on [2, 3, 4, 5] rfl ?_
    refine D_one 2 _ rfl kr rfl (op_cn (fun w hw => schedule_f b A c w (hok_cons ((src_rd 5 rfl) w hw) (hok_nil w)) sd) (enters_of Try.func111 kr rfl) rfl rfl rfl rfl rfl (fun t18 q19 => ?_))
    refine D_on [2, 3, 4, 5] rfl ?_
    refine D_one 5 _ rfl kr rfl (op_sto (n := 8) (vs := (s.map b32)) 1 rfl rfl kr (all32_one _) kr sd rfl rfl rfl rfl ?_)
    refine D_on [2, 3, 4, 5] rfl ?_
    refine D_one 6 _ rfl kr rfl (op_sto (n := 64) (vs := ((schw b 64).map b32)) 1 rfl rfl kr (all32_one _) kr sd rfl rfl rfl rfl ?_)
    refine D_on [2, 3, 4, 5] rfl ?_
    refine D_done kr ?_
    exact T_meet (g13, g17) trivial (sc rfl (sc rfl (sc rfl (sc rfl (sc rfl sn))))) [0, 1, 2, 3, 4, 5] ⟨by decide, rfl⟩
  ·
   refine id (op_alloc (z := .agg ((List.replicate 64 0#32).map b32).toArray) (zs := ((List.replicate 64 0#32).map b32)) kr rfl rfl rfl rfl (fun g20 => ?_))
   refine D_on [1, 2, 3, 4] rfl ?_
   refine D_all [2, 3] kr (by simp) ⟨⟨_, rfl, rfl, ?_⟩, ⟨_, rfl, rfl, ?_⟩, trivial⟩
   ·
    refine id (op_cn (fun w hw => schedule_f b A c w (hok_cons ((src_rd 4 rfl) w hw) (hok_nil w)) sd) (enters_of Try.func111 kr rfl) rfl rfl rfl rfl rfl (fun t21 q22 => ?_))
    refine D_on [1, 2, 3, 4] rfl ?_
    refine D_one 3 _ rfl kr rfl (op_alloc (z := .agg [(b32 (0#32)), (b32 (0#32)), (b32 (0#32)), (b32 (0#32)), (b32 (0#32)), (b32 (0#32)), (b32 (0#32)), (b32 (0#32))].toArray) (zs := [(b32 (0#32)), (b32 (0#32)), (b32 (0#32)), (b32 (0#32)), (b32 (0#32)), (b32 (0#32)), (b32 (0#32)), (b32 (0#32))]) kr rfl rfl rfl rfl (fun g23 => ?_))
    refine D_on [2, 3, 4, 5] rfl ?_
    refine D_one 5 _ rfl kr rfl (op_sto (n := 8) (vs := (s.map b32)) 0 rfl rfl kr (all32_one _) kr sd rfl rfl rfl rfl ?_)
    refine D_on [2, 3, 4, 5] rfl ?_
    refine D_one 6 _ rfl kr rfl (op_sto (n := 64) (vs := ((schw b 64).map b32)) 1 rfl rfl kr (all32_one _) kr sd rfl rfl rfl rfl ?_)
    refine D_on [2, 3, 4, 5] rfl ?_
    refine D_done kr ?_
    exact T_meet (g23, g20) trivial (sc rfl (sc rfl (sc rfl (sc rfl (sc rfl sn))))) [0, 1, 2, 3, 4, 5] ⟨by decide, rfl⟩
   ·
    refine id (op_alloc (z := .agg [(b32 (0#32)), (b32 (0#32)), (b32 (0#32)), (b32 (0#32)), (b32 (0#32)), (b32 (0#32)), (b32 (0#32)), (b32 (0#32))].toArray) (zs := [(b32 (0#32)), (b32 (0#32)), (b32 (0#32)), (b32 (0#32)), (b32 (0#32)), (b32 (0#32)), (b32 (0#32)), (b32 (0#32))]) kr rfl rfl rfl rfl (fun g24 => ?_))
    refine D_on [2, 3, 4, 5] rfl ?_
    refine D_one 2 _ rfl kr rfl (op_cn (fun w hw => schedule_f b A c w (hok_cons ((src_rd 5 rfl) w hw) (hok_nil w)) sd) (enters_of Try.func111 kr rfl) rfl rfl rfl rfl rfl (fun t25 q26 => ?_))
    refine D_on [2, 3, 4, 5] rfl ?_
    refine D_one 5 _ rfl kr rfl (op_sto (n := 8) (vs := (s.map b32)) 0 rfl rfl kr (all32_one _) kr sd rfl rfl rfl rfl ?_)
    refine D_on [2, 3, 4, 5] rfl ?_
    refine D_one 6 _ rfl kr rfl (op_sto (n := 64) (vs := ((schw b 64).map b32)) 1 rfl rfl kr (all32_one _) kr sd rfl rfl rfl rfl ?_)
    refine D_on [2, 3, 4, 5] rfl ?_
    refine D_done kr ?_
    exact T_meet (g24, g20) trivial (sc rfl (sc rfl (sc rfl (sc rfl (sc rfl sn))))) [0, 1, 2, 3, 4, 5] ⟨by decide, rfl⟩
 ·
  rintro ⟨g5, g6⟩ -
  refine T_re [(1, (.pointer (some ⟨gk, 0, none⟩))), (3, (.pointer (some ⟨g1, 0, none⟩))), (6, (.pointer (some ⟨g2, 0, none⟩))), (7, (.pointer (some ⟨g5, 0, none⟩))), (8, (.pointer (some ⟨g6, 0, none⟩)))] (sc rfl (sc rfl (sc rfl (sc rfl (sc rfl sn))))) ?_
  refine T_he [0, 1, 2, 3, 4, 5] [.blk g6 159 ((schw b 64).map b32), .blk g5 161 (s.map b32), .blk g2 161 [(b32 (0#32)), (b32 (0#32)), (b32 (0#32)), (b32 (0#32)), (b32 (0#32)), (b32 (0#32)), (b32 (0#32)), (b32 (0#32))], .blk g1 161 (s.map b32), .rd (some ⟨gk, 0, none⟩) 1 64 64 (shaK.map b32), .rd A 1 64 c (b.map b8)] ⟨by decide, rfl⟩ ?_
  refine T_seq ?_
  refine Tsr hF rfl ?_
  refine lm rfl rfl rfl rfl rfl ?_
  refine L_nil ?_
  refine T_block ?_
  refine T_as 1 _ (.blk g5 161 ((rounds s (schw b 64) 0).map b32)) rfl (by rw [rounds_zero]) ?_
  refine T_loop (T := Nat) (fun k => k ≤ 64) (fun k => [(1, (.pointer (some ⟨gk, 0, none⟩))), (3, (.pointer (some ⟨g1, 0, none⟩))), (6, (.pointer (some ⟨g2, 0, none⟩))), (7, (.pointer (some ⟨g5, 0, none⟩))), (8, (.pointer (some ⟨g6, 0, none⟩))), (18, (.int .i64 ((k : Nat) : Int)))]) (fun k => [.blk g6 159 ((schw b 64).map b32), .blk g5 161 ((rounds s (schw b 64) k).map b32), .blk g2 161 [(b32 (0#32)), (b32 (0#32)), (b32 (0#32)), (b32 (0#32)), (b32 (0#32)), (b32 (0#32)), (b32 (0#32)), (b32 (0#32))], .blk g1 161 (s.map b32), .rd (some ⟨gk, 0, none⟩) 1 64 64 (shaK.map b32), .rd A 1 64 c (b.map b8)]) (fun k => 64 - k) 0 (by first | trivial | ((try dsimp only); first | omega | (refine ⟨?_, ?_⟩ <;> omega) | (refine ⟨?_, ?_, ?_⟩ <;> omega) | (simp; done) | (simp; omega))) (sc rfl (sc rfl (sc rfl (sc rfl (sc rfl (sc rfl sn)))))) [1, 0, 2, 3, 4, 5] ⟨by decide, rfl⟩ ?_
  rintro k hp
  have hp : k ≤ 64 := hp
  have hrk := hrl k
  refine T_re [(1, (.pointer (some ⟨gk, 0, none⟩))), (3, (.pointer (some ⟨g1, 0, none⟩))), (6, (.pointer (some ⟨g2, 0, none⟩))), (7, (.pointer (some ⟨g5, 0, none⟩))), (8, (.pointer (some ⟨g6, 0, none⟩))), (18, (.int .i64 ((k : Nat) : Int)))] (sc rfl (sc rfl (sc rfl (sc rfl (sc rfl (sc rfl sn)))))) ?_
  refine T_he [0, 1, 2, 3, 4, 5] [.blk g6 159 ((schw b 64).map b32), .blk g5 161 ((rounds s (schw b 64) k).map b32), .blk g2 161 [(b32 (0#32)), (b32 (0#32)), (b32 (0#32)), (b32 (0#32)), (b32 (0#32)), (b32 (0#32)), (b32 (0#32)), (b32 (0#32))], .blk g1 161 (s.map b32), .rd (some ⟨gk, 0, none⟩) 1 64 64 (shaK.map b32), .rd A 1 64 c (b.map b8)] ⟨by decide, rfl⟩ ?_
  refine Tsr hF rfl ?_
  refine lo rfl (pr_cmp (bo := .lss) (nc_lt (a := k) (b := 64)) rfl rfl rfl rfl) rfl rfl ?_
  refine L_nil ?_
  refine T_seq ?_
  refine T_cond (decide (k < 64)) rfl (fun hc_27 => ?_) (fun hc_27 => ?_)
  ·
   have hc_27 := of_decide_eq_true hc_27
   refine T_skip ?_
   refine T_seq ?_
   refine T_block ?_
   refine Tsr hF rfl ?_
   refine lm rfl rfl rfl rfl rfl ?_
   refine la rfl rfl rfl rfl rfl ?_
   refine L_nil ?_
   refine T_seq ?_
   refine T_regD [.blk g6 159 ((schw b 64).map b32), .blk g5 161 ((rounds s (schw b 64) k).map b32), .blk g2 161 [(b32 (0#32)), (b32 (0#32)), (b32 (0#32)), (b32 (0#32)), (b32 (0#32)), (b32 (0#32)), (b32 (0#32)), (b32 (0#32))], .blk g1 161 (s.map b32), .rd (some ⟨gk, 0, none⟩) 1 64 64 (shaK.map b32), .rd A 1 64 c (b.map b8)] 12 12 #[false, false, false, false, false, false, false, false, false, false, false, false] hF kr kr ?_
   refine D_pure (i := 0) [0, 1, 2, 3, 4, 5] rfl kr rfl (pr_ixa (j := 4) (m' := 4) sd (by omega) Try.underlying161 (z := 1) kr rfl rfl rfl) (.inr rfl) rfl rfl ?_
   refine D_pure (i := 3) [0, 1, 2, 3, 4, 5] rfl kr rfl (pr_ixa (j := 4) (m' := 4) sd (by omega) Try.underlying161 (z := 1) kr rfl rfl rfl) (.inr rfl) rfl rfl ?_
   refine D_pure (i := 7) [0, 1, 2, 3, 4, 5] rfl kr rfl (pr_ixa (j := 4) (m' := 4) sd (by omega) Try.underlying161 (z := 1) kr rfl rfl rfl) (.inr rfl) rfl rfl ?_
   refine D_take (i := 1) [0, 1, 2, 3, 4, 5] rfl kr rfl (ld_blk 1 rfl (get32 sd) Try.underlying112 rfl rfl rfl) rfl rfl rfl ?_
   refine D_take (i := 4) [0, 1, 2, 3, 4, 5] rfl kr rfl (ld_blk 1 rfl (get32 sd) Try.underlying112 rfl rfl rfl) rfl rfl rfl ?_
   refine D_take (i := 8) [0, 1, 2, 3, 4, 5] rfl kr rfl (ld_blk 1 rfl (get32 sd) Try.underlying112 rfl rfl rfl) rfl rfl rfl ?_
   refine D_one 2 _ rfl kr rfl (op_cn (fun w hw => rotated_f (ath (rounds s (schw b 64) k) 4) 6 w (hok_nil w) sd sd) (enters_of Try.func112 kr rfl) rfl rfl rfl rfl rfl (fun t28 q29 => ?_))
   refine D_on [0, 1, 2, 3, 4, 5] rfl ?_
   refine D_one 5 _ rfl kr rfl (op_cn (fun w hw => rotated_f (ath (rounds s (schw b 64) k) 4) 11 w (hok_nil w) sd sd) (enters_of Try.func112 kr rfl) rfl rfl rfl rfl rfl (fun t30 q31 => ?_))
   refine D_on [0, 1, 2, 3, 4, 5] rfl ?_
   refine D_pure (i := 6) [0, 1, 2, 3, 4, 5] rfl kr rfl (pr_xor (ib_xor32 _ _) rfl rfl rfl) (.inr rfl) rfl rfl ?_
   refine D_one 9 _ rfl kr rfl (op_cn (fun w hw => rotated_f (ath (rounds s (schw b 64) k) 4) 25 w (hok_nil w) sd sd) (enters_of Try.func112 kr rfl) rfl rfl rfl rfl rfl (fun t32 q33 => ?_))
   refine D_on [0, 1, 2, 3, 4, 5] rfl ?_
   refine D_pure (i := 10) [0, 1, 2, 3, 4, 5] rfl kr rfl (pr_xor (ib_xor32 _ _) rfl rfl rfl) (.inr rfl) rfl rfl ?_
   refine D_pure (i := 11) [0, 1, 2, 3, 4, 5] rfl kr rfl (pr_assign rfl rfl) (.inr rfl) rfl rfl ?_
   refine D_done kr ?_
   refine T_seq ?_
   refine T_regD [.blk g6 159 ((schw b 64).map b32), .blk g5 161 ((rounds s (schw b 64) k).map b32), .blk g2 161 [(b32 (0#32)), (b32 (0#32)), (b32 (0#32)), (b32 (0#32)), (b32 (0#32)), (b32 (0#32)), (b32 (0#32)), (b32 (0#32))], .blk g1 161 (s.map b32), .rd (some ⟨gk, 0, none⟩) 1 64 64 (shaK.map b32), .rd A 1 64 c (b.map b8)] 12 12 #[false, false, false, false, false, false, false, false, false, false, false, false] hF kr kr ?_
   refine D_pure (i := 0) [0, 1, 2, 3, 4, 5] rfl kr rfl (pr_ixa (j := 0) (m' := 0) sd (by omega) Try.underlying161 (z := 1) kr rfl rfl rfl) (.inr rfl) rfl rfl ?_
   refine D_pure (i := 3) [0, 1, 2, 3, 4, 5] rfl kr rfl (pr_ixa (j := 0) (m' := 0) sd (by omega) Try.underlying161 (z := 1) kr rfl rfl rfl) (.inr rfl) rfl rfl ?_
   refine D_pure (i := 7) [0, 1, 2, 3, 4, 5] rfl kr rfl (pr_ixa (j := 0) (m' := 0) sd (by omega) Try.underlying161 (z := 1) kr rfl rfl rfl) (.inr rfl) rfl rfl ?_
   refine D_take (i := 1) [0, 1, 2, 3, 4, 5] rfl kr rfl (ld_blk 1 rfl (get32 sd) Try.underlying112 rfl rfl rfl) rfl rfl rfl ?_
   refine D_take (i := 4) [0, 1, 2, 3, 4, 5] rfl kr rfl (ld_blk 1 rfl (get32 sd) Try.underlying112 rfl rfl rfl) rfl rfl rfl ?_
   refine D_take (i := 8) [0, 1, 2, 3, 4, 5] rfl kr rfl (ld_blk 1 rfl (get32 sd) Try.underlying112 rfl rfl rfl) rfl rfl rfl ?_
   refine D_one 2 _ rfl kr rfl (op_cn (fun w hw => rotated_f (ath (rounds s (schw b 64) k) 0) 2 w (hok_nil w) sd sd) (enters_of Try.func112 kr rfl) rfl rfl rfl rfl rfl (fun t34 q35 => ?_))
   refine D_on [0, 1, 2, 3, 4, 5] rfl ?_
   refine D_one 5 _ rfl kr rfl (op_cn (fun w hw => rotated_f (ath (rounds s (schw b 64) k) 0) 13 w (hok_nil w) sd sd) (enters_of Try.func112 kr rfl) rfl rfl rfl rfl rfl (fun t36 q37 => ?_))
   refine D_on [0, 1, 2, 3, 4, 5] rfl ?_
   refine D_pure (i := 6) [0, 1, 2, 3, 4, 5] rfl kr rfl (pr_xor (ib_xor32 _ _) rfl rfl rfl) (.inr rfl) rfl rfl ?_
   refine D_one 9 _ rfl kr rfl (op_cn (fun w hw => rotated_f (ath (rounds s (schw b 64) k) 0) 22 w (hok_nil w) sd sd) (enters_of Try.func112 kr rfl) rfl rfl rfl rfl rfl (fun t38 q39 => ?_))
   refine D_on [0, 1, 2, 3, 4, 5] rfl ?_
   refine D_pure (i := 10) [0, 1, 2, 3, 4, 5] rfl kr rfl (pr_xor (ib_xor32 _ _) rfl rfl rfl) (.inr rfl) rfl rfl ?_
   refine D_pure (i := 11) [0, 1, 2, 3, 4, 5] rfl kr rfl (pr_assign rfl rfl) (.inr rfl) rfl rfl ?_
   refine D_done kr ?_
   refine T_seq ?_
   refine T_regD [.blk g6 159 ((schw b 64).map b32), .blk g5 161 ((rounds s (schw b 64) k).map b32), .blk g2 161 [(b32 (0#32)), (b32 (0#32)), (b32 (0#32)), (b32 (0#32)), (b32 (0#32)), (b32 (0#32)), (b32 (0#32)), (b32 (0#32))], .blk g1 161 (s.map b32), .rd (some ⟨gk, 0, none⟩) 1 64 64 (shaK.map b32), .rd A 1 64 c (b.map b8)] 28 28 #[false, false, false, false, false, false, false, false, false, false, false, false, false, false, false, false, false, false, false, false, false, false, false, false, false, false, false, false] hF kr kr ?_
   refine D_pure (i := 0) [0, 1, 2, 3, 4, 5] rfl kr rfl (pr_ixa (j := 7) (m' := 7) sd (by omega) Try.underlying161 (z := 1) kr rfl rfl rfl) (.inr rfl) rfl rfl ?_
   refine D_pure (i := 2) [0, 1, 2, 3, 4, 5] rfl kr rfl (pr_move rfl rfl) (.inr rfl) rfl rfl ?_
   refine D_pure (i := 4) [0, 1, 2, 3, 4, 5] rfl kr rfl (pr_ixa (j := 4) (m' := 4) sd (by omega) Try.underlying161 (z := 1) kr rfl rfl rfl) (.inr rfl) rfl rfl ?_
   refine D_pure (i := 6) [0, 1, 2, 3, 4, 5] rfl kr rfl (pr_ixa (j := 5) (m' := 5) sd (by omega) Try.underlying161 (z := 1) kr rfl rfl rfl) (.inr rfl) rfl rfl ?_
   refine D_pure (i := 9) [0, 1, 2, 3, 4, 5] rfl kr rfl (pr_ixa (j := 4) (m' := 4) sd (by omega) Try.underlying161 (z := 1) kr rfl rfl rfl) (.inr rfl) rfl rfl ?_
   refine D_pure (i := 12) [0, 1, 2, 3, 4, 5] rfl kr rfl (pr_ixa (j := 6) (m' := 6) sd (by omega) Try.underlying161 (z := 1) kr rfl rfl rfl) (.inr rfl) rfl rfl ?_
   refine D_pure (i := 17) [0, 1, 2, 3, 4, 5] rfl kr rfl (pr_move rfl rfl) (.inr rfl) rfl rfl ?_
   refine D_pure (i := 18) [0, 1, 2, 3, 4, 5] rfl kr rfl (pr_move rfl rfl) (.inr rfl) rfl rfl ?_
   refine D_pure (i := 19) [0, 1, 2, 3, 4, 5] rfl kr rfl (pr_nilck rfl rfl) (.inr rfl) rfl rfl ?_
   refine D_pure (i := 20) [0, 1, 2, 3, 4, 5] rfl kr rfl (pr_ixa (j := k) (m' := k) sd (by omega) Try.underlying159 (z := 1) kr rfl rfl rfl) (.inr rfl) rfl rfl ?_
   refine D_pure (i := 23) [0, 1, 2, 3, 4, 5] rfl kr rfl (pr_move rfl rfl) (.inr rfl) rfl rfl ?_
   refine D_pure (i := 24) [0, 1, 2, 3, 4, 5] rfl kr rfl (pr_ixa (j := k) (m' := k) sd (by omega) Try.underlying159 (z := 1) kr rfl rfl rfl) (.inr rfl) rfl rfl ?_
   refine D_take (i := 1) [0, 1, 2, 3, 4, 5] rfl kr rfl (ld_blk 1 rfl (get32 sd) Try.underlying112 rfl rfl rfl) rfl rfl rfl ?_
   refine D_pure (i := 3) [0, 1, 2, 3, 4, 5] rfl kr rfl (pr_add (add32 _ _) rfl rfl rfl) (.inr rfl) rfl rfl ?_
   refine D_take (i := 5) [0, 1, 2, 3, 4, 5] rfl kr rfl (ld_blk 1 rfl (get32 sd) Try.underlying112 rfl rfl rfl) rfl rfl rfl ?_
   refine D_take (i := 7) [0, 1, 2, 3, 4, 5] rfl kr rfl (ld_blk 1 rfl (get32 sd) Try.underlying112 rfl rfl rfl) rfl rfl rfl ?_
   refine D_pure (i := 8) [0, 1, 2, 3, 4, 5] rfl kr rfl (pr_and (ib_and32 _ _) rfl rfl rfl) (.inr rfl) rfl rfl ?_
   refine D_take (i := 10) [0, 1, 2, 3, 4, 5] rfl kr rfl (ld_blk 1 rfl (get32 sd) Try.underlying112 rfl rfl rfl) rfl rfl rfl ?_
   refine D_pure (i := 11) [0, 1, 2, 3, 4, 5] rfl kr rfl (pr_un (not32 _) rfl rfl) (.inr rfl) rfl rfl ?_
   refine D_take (i := 13) [0, 1, 2, 3, 4, 5] rfl kr rfl (ld_blk 1 rfl (get32 sd) Try.underlying112 rfl rfl rfl) rfl rfl rfl ?_
   refine D_pure (i := 14) [0, 1, 2, 3, 4, 5] rfl kr rfl (pr_and (ib_and32 _ _) rfl rfl rfl) (.inr rfl) rfl rfl ?_
   refine D_pure (i := 15) [0, 1, 2, 3, 4, 5] rfl kr rfl (pr_xor (ib_xor32 _ _) rfl rfl rfl) (.inr rfl) rfl rfl ?_
   refine D_pure (i := 16) [0, 1, 2, 3, 4, 5] rfl kr rfl (pr_add (add32 _ _) rfl rfl rfl) (.inr rfl) rfl rfl ?_
   refine D_take (i := 21) [0, 1, 2, 3, 4, 5] rfl kr rfl (ld_rdb (src_rd 4 rfl) (get32 sd) Try.underlying112 rfl rfl rfl) rfl rfl rfl ?_
   refine D_pure (i := 22) [0, 1, 2, 3, 4, 5] rfl kr rfl (pr_add (add32 _ _) rfl rfl rfl) (.inr rfl) rfl rfl ?_
   refine D_take (i := 25) [0, 1, 2, 3, 4, 5] rfl kr rfl (ld_blk 0 rfl (get32 sd) Try.underlying112 rfl rfl rfl) rfl rfl rfl ?_
   refine D_pure (i := 26) [0, 1, 2, 3, 4, 5] rfl kr rfl (pr_add (add32 _ _) rfl rfl rfl) (.inr rfl) rfl rfl ?_
   refine D_pure (i := 27) [0, 1, 2, 3, 4, 5] rfl kr rfl (pr_assign rfl rfl) (.inr rfl) rfl rfl ?_
   refine D_done kr ?_
   refine Tsr hF rfl ?_
   refine lm rfl rfl rfl rfl rfl ?_
   refine lo rfl (pr_ixa (j := 0) (m' := 0) sd (by omega) Try.underlying161 (z := 1) kr rfl rfl rfl) rfl rfl ?_
   refine lq rfl (ld_blk 1 rfl (get32 sd) Try.underlying112 rfl rfl rfl) rfl rfl ?_
   refine lo rfl (pr_ixa (j := 1) (m' := 1) sd (by omega) Try.underlying161 (z := 1) kr rfl rfl rfl) rfl rfl ?_
   refine lq rfl (ld_blk 1 rfl (get32 sd) Try.underlying112 rfl rfl rfl) rfl rfl ?_
   refine lo rfl (pr_and (ib_and32 _ _) rfl rfl rfl) rfl rfl ?_
   refine lo rfl (pr_ixa (j := 0) (m' := 0) sd (by omega) Try.underlying161 (z := 1) kr rfl rfl rfl) rfl rfl ?_
   refine lq rfl (ld_blk 1 rfl (get32 sd) Try.underlying112 rfl rfl rfl) rfl rfl ?_
   refine lo rfl (pr_ixa (j := 2) (m' := 2) sd (by omega) Try.underlying161 (z := 1) kr rfl rfl rfl) rfl rfl ?_
   refine lq rfl (ld_blk 1 rfl (get32 sd) Try.underlying112 rfl rfl rfl) rfl rfl ?_
   refine lo rfl (pr_and (ib_and32 _ _) rfl rfl rfl) rfl rfl ?_
   refine lo rfl (pr_xor (ib_xor32 _ _) rfl rfl rfl) rfl rfl ?_
   refine lo rfl (pr_ixa (j := 1) (m' := 1) sd (by omega) Try.underlying161 (z := 1) kr rfl rfl rfl) rfl rfl ?_
   refine lq rfl (ld_blk 1 rfl (get32 sd) Try.underlying112 rfl rfl rfl) rfl rfl ?_
   refine lo rfl (pr_ixa (j := 2) (m' := 2) sd (by omega) Try.underlying161 (z := 1) kr rfl rfl rfl) rfl rfl ?_
   refine lq rfl (ld_blk 1 rfl (get32 sd) Try.underlying112 rfl rfl rfl) rfl rfl ?_
   refine lo rfl (pr_and (ib_and32 _ _) rfl rfl rfl) rfl rfl ?_
   refine lo rfl (pr_xor (ib_xor32 _ _) rfl rfl rfl) rfl rfl ?_
   refine lo rfl (pr_add (add32 _ _) rfl rfl rfl) rfl rfl ?_
   refine la rfl rfl rfl rfl rfl ?_
   refine L_nil ?_
   refine T_reg hF rfl ?_
   refine lm rfl rfl rfl rfl rfl ?_
   refine lm rfl rfl rfl rfl rfl ?_
   refine lo rfl (pr_add (add32 _ _) rfl rfl rfl) rfl rfl ?_
   refine lo rfl (pr_ixa (j := 0) (m' := 0) sd (by omega) Try.underlying161 (z := 1) kr rfl rfl rfl) rfl rfl ?_
   refine lq rfl (ld_blk 1 rfl (get32 sd) Try.underlying112 rfl rfl rfl) rfl rfl ?_
   refine lo rfl (pr_ixa (j := 1) (m' := 1) sd (by omega) Try.underlying161 (z := 1) kr rfl rfl rfl) rfl rfl ?_
   refine lq rfl (ld_blk 1 rfl (get32 sd) Try.underlying112 rfl rfl rfl) rfl rfl ?_
   refine lo rfl (pr_ixa (j := 2) (m' := 2) sd (by omega) Try.underlying161 (z := 1) kr rfl rfl rfl) rfl rfl ?_
   refine lq rfl (ld_blk 1 rfl (get32 sd) Try.underlying112 rfl rfl rfl) rfl rfl ?_
   refine lo rfl (pr_ixa (j := 3) (m' := 3) sd (by omega) Try.underlying161 (z := 1) kr rfl rfl rfl) rfl rfl ?_
   refine lq rfl (ld_blk 1 rfl (get32 sd) Try.underlying112 rfl rfl rfl) rfl rfl ?_
   refine lm rfl rfl rfl rfl rfl ?_
   refine lo rfl (pr_add (add32 _ _) rfl rfl rfl) rfl rfl ?_
   refine lo rfl (pr_ixa (j := 4) (m' := 4) sd (by omega) Try.underlying161 (z := 1) kr rfl rfl rfl) rfl rfl ?_
   refine lq rfl (ld_blk 1 rfl (get32 sd) Try.underlying112 rfl rfl rfl) rfl rfl ?_
   refine lo rfl (pr_ixa (j := 5) (m' := 5) sd (by omega) Try.underlying161 (z := 1) kr rfl rfl rfl) rfl rfl ?_
   refine lq rfl (ld_blk 1 rfl (get32 sd) Try.underlying112 rfl rfl rfl) rfl rfl ?_
   refine lo rfl (pr_ixa (j := 6) (m' := 6) sd (by omega) Try.underlying161 (z := 1) kr rfl rfl rfl) rfl rfl ?_
   refine lq rfl (ld_blk 1 rfl (get32 sd) Try.underlying112 rfl rfl rfl) rfl rfl ?_
   refine lo rfl (pr_build (qs := [(0, (b32 ((((((ath (rounds s (schw b 64) k) 7) + (((ror32 (ath (rounds s (schw b 64) k) 4) 6) ^^^ (ror32 (ath (rounds s (schw b 64) k) 4) 11)) ^^^ (ror32 (ath (rounds s (schw b 64) k) 4) 25))) + (((ath (rounds s (schw b 64) k) 4) &&& (ath (rounds s (schw b 64) k) 5)) ^^^ ((~~~(ath (rounds s (schw b 64) k) 4)) &&& (ath (rounds s (schw b 64) k) 6)))) + (ath shaK k)) + (ath (schw b 64) k)) + ((((ror32 (ath (rounds s (schw b 64) k) 0) 2) ^^^ (ror32 (ath (rounds s (schw b 64) k) 0) 13)) ^^^ (ror32 (ath (rounds s (schw b 64) k) 0) 22)) + ((((ath (rounds s (schw b 64) k) 0) &&& (ath (rounds s (schw b 64) k) 1)) ^^^ ((ath (rounds s (schw b 64) k) 0) &&& (ath (rounds s (schw b 64) k) 2))) ^^^ ((ath (rounds s (schw b 64) k) 1) &&& (ath (rounds s (schw b 64) k) 2))))))), (1, (b32 (ath (rounds s (schw b 64) k) 0))), (2, (b32 (ath (rounds s (schw b 64) k) 1))), (3, (b32 (ath (rounds s (schw b 64) k) 2))), (4, (b32 ((ath (rounds s (schw b 64) k) 3) + (((((ath (rounds s (schw b 64) k) 7) + (((ror32 (ath (rounds s (schw b 64) k) 4) 6) ^^^ (ror32 (ath (rounds s (schw b 64) k) 4) 11)) ^^^ (ror32 (ath (rounds s (schw b 64) k) 4) 25))) + (((ath (rounds s (schw b 64) k) 4) &&& (ath (rounds s (schw b 64) k) 5)) ^^^ ((~~~(ath (rounds s (schw b 64) k) 4)) &&& (ath (rounds s (schw b 64) k) 6)))) + (ath shaK k)) + (ath (schw b 64) k))))), (5, (b32 (ath (rounds s (schw b 64) k) 4))), (6, (b32 (ath (rounds s (schw b 64) k) 5))), (7, (b32 (ath (rounds s (schw b 64) k) 6)))]) (v := .agg [(b32 ((((((ath (rounds s (schw b 64) k) 7) + (((ror32 (ath (rounds s (schw b 64) k) 4) 6) ^^^ (ror32 (ath (rounds s (schw b 64) k) 4) 11)) ^^^ (ror32 (ath (rounds s (schw b 64) k) 4) 25))) + (((ath (rounds s (schw b 64) k) 4) &&& (ath (rounds s (schw b 64) k) 5)) ^^^ ((~~~(ath (rounds s (schw b 64) k) 4)) &&& (ath (rounds s (schw b 64) k) 6)))) + (ath shaK k)) + (ath (schw b 64) k)) + ((((ror32 (ath (rounds s (schw b 64) k) 0) 2) ^^^ (ror32 (ath (rounds s (schw b 64) k) 0) 13)) ^^^ (ror32 (ath (rounds s (schw b 64) k) 0) 22)) + ((((ath (rounds s (schw b 64) k) 0) &&& (ath (rounds s (schw b 64) k) 1)) ^^^ ((ath (rounds s (schw b 64) k) 0) &&& (ath (rounds s (schw b 64) k) 2))) ^^^ ((ath (rounds s (schw b 64) k) 1) &&& (ath (rounds s (schw b 64) k) 2)))))), (b32 (ath (rounds s (schw b 64) k) 0)), (b32 (ath (rounds s (schw b 64) k) 1)), (b32 (ath (rounds s (schw b 64) k) 2)), (b32 ((ath (rounds s (schw b 64) k) 3) + (((((ath (rounds s (schw b 64) k) 7) + (((ror32 (ath (rounds s (schw b 64) k) 4) 6) ^^^ (ror32 (ath (rounds s (schw b 64) k) 4) 11)) ^^^ (ror32 (ath (rounds s (schw b 64) k) 4) 25))) + (((ath (rounds s (schw b 64) k) 4) &&& (ath (rounds s (schw b 64) k) 5)) ^^^ ((~~~(ath (rounds s (schw b 64) k) 4)) &&& (ath (rounds s (schw b 64) k) 6)))) + (ath shaK k)) + (ath (schw b 64) k)))), (b32 (ath (rounds s (schw b 64) k) 4)), (b32 (ath (rounds s (schw b 64) k) 5)), (b32 (ath (rounds s (schw b 64) k) 6))].toArray) (fun _ => by kernel_rfl) rfl rfl) rfl rfl ?_
   refine L_op rfl (op_sto (n := 8) (vs := [(b32 ((((((ath (rounds s (schw b 64) k) 7) + (((ror32 (ath (rounds s (schw b 64) k) 4) 6) ^^^ (ror32 (ath (rounds s (schw b 64) k) 4) 11)) ^^^ (ror32 (ath (rounds s (schw b 64) k) 4) 25))) + (((ath (rounds s (schw b 64) k) 4) &&& (ath (rounds s (schw b 64) k) 5)) ^^^ ((~~~(ath (rounds s (schw b 64) k) 4)) &&& (ath (rounds s (schw b 64) k) 6)))) + (ath shaK k)) + (ath (schw b 64) k)) + ((((ror32 (ath (rounds s (schw b 64) k) 0) 2) ^^^ (ror32 (ath (rounds s (schw b 64) k) 0) 13)) ^^^ (ror32 (ath (rounds s (schw b 64) k) 0) 22)) + ((((ath (rounds s (schw b 64) k) 0) &&& (ath (rounds s (schw b 64) k) 1)) ^^^ ((ath (rounds s (schw b 64) k) 0) &&& (ath (rounds s (schw b 64) k) 2))) ^^^ ((ath (rounds s (schw b 64) k) 1) &&& (ath (rounds s (schw b 64) k) 2)))))), (b32 (ath (rounds s (schw b 64) k) 0)), (b32 (ath (rounds s (schw b 64) k) 1)), (b32 (ath (rounds s (schw b 64) k) 2)), (b32 ((ath (rounds s (schw b 64) k) 3) + (((((ath (rounds s (schw b 64) k) 7) + (((ror32 (ath (rounds s (schw b 64) k) 4) 6) ^^^ (ror32 (ath (rounds s (schw b 64) k) 4) 11)) ^^^ (ror32 (ath (rounds s (schw b 64) k) 4) 25))) + (((ath (rounds s (schw b 64) k) 4) &&& (ath (rounds s (schw b 64) k) 5)) ^^^ ((~~~(ath (rounds s (schw b 64) k) 4)) &&& (ath (rounds s (schw b 64) k) 6)))) + (ath shaK k)) + (ath (schw b 64) k)))), (b32 (ath (rounds s (schw b 64) k) 4)), (b32 (ath (rounds s (schw b 64) k) 5)), (b32 (ath (rounds s (schw b 64) k) 6))]) 1 rfl rfl kr (by simp [Value.oneCell']) sd kr rfl rfl rfl rfl ?_)
   refine L_nil ?_
   refine T_reg hF rfl ?_
   refine lo rfl (pr_add (na_i64 (a := k) (b := 1) sd) rfl rfl rfl) rfl rfl ?_
   refine lm rfl rfl rfl rfl rfl ?_
   refine L_nil ?_
   refine T_as 0 _ (.blk g5 161 ((rounds s (schw b 64) (k + 1)).map b32)) rfl (by rw [rounds_succ]; rfl) ?_
   exact T_again (k + 1) (by first | trivial | ((try dsimp only); first | omega | (refine ⟨?_, ?_⟩ <;> omega) | (refine ⟨?_, ?_, ?_⟩ <;> omega) | (simp; done) | (simp; omega))) (by first | trivial | ((try dsimp only); first | omega | (refine ⟨?_, ?_⟩ <;> omega) | (refine ⟨?_, ?_, ?_⟩ <;> omega) | (simp; done) | (simp; omega))) (sc rfl (sc rfl (sc rfl (sc rfl (sc rfl (sc rfl sn)))))) [1, 0, 2, 3, 4, 5] ⟨by decide, rfl⟩
  ·
   have hc_27 := of_decide_eq_false hc_27
   refine T_exit rfl ?_
   obtain rfl : 64 = k := by omega
   refine T_seq ?_
   refine Tsr hF rfl ?_
   refine lm rfl rfl rfl rfl rfl ?_
   refine L_nil ?_
   refine T_block ?_
   refine T_as 3 _ (.blk g1 161 ((addt s (rounds s (schw b 64) 64) 0).map b32)) rfl (by rw [addt_zero]) ?_
   refine T_loop (T := Nat) (fun k => k ≤ 8) (fun k => [(3, (.pointer (some ⟨g1, 0, none⟩))), (6, (.pointer (some ⟨g2, 0, none⟩))), (7, (.pointer (some ⟨g5, 0, none⟩))), (110, (.int .i64 ((k : Nat) : Int)))]) (fun k => [.blk g6 159 ((schw b 64).map b32), .blk g5 161 ((rounds s (schw b 64) 64).map b32), .blk g2 161 [(b32 (0#32)), (b32 (0#32)), (b32 (0#32)), (b32 (0#32)), (b32 (0#32)), (b32 (0#32)), (b32 (0#32)), (b32 (0#32))], .blk g1 161 ((addt s (rounds s (schw b 64) 64) k).map b32), .rd (some ⟨gk, 0, none⟩) 1 64 64 (shaK.map b32), .rd A 1 64 c (b.map b8)]) (fun k => 8 - k) 0 (by first | trivial | ((try dsimp only); first | omega | (refine ⟨?_, ?_⟩ <;> omega) | (refine ⟨?_, ?_, ?_⟩ <;> omega) | (simp; done) | (simp; omega))) (sc rfl (sc rfl (sc rfl (sc rfl sn)))) [1, 2, 3, 0, 4, 5] ⟨by decide, rfl⟩ ?_
   rintro k hp
   have hp : k ≤ 8 := hp
   have hak := hal (rounds s (schw b 64) 64) k
   have hr64 := hrl 64
   refine T_re [(3, (.pointer (some ⟨g1, 0, none⟩))), (6, (.pointer (some ⟨g2, 0, none⟩))), (7, (.pointer (some ⟨g5, 0, none⟩))), (110, (.int .i64 ((k : Nat) : Int)))] (sc rfl (sc rfl (sc rfl (sc rfl sn)))) ?_
   refine T_he [0, 1, 2, 3, 4, 5] [.blk g6 159 ((schw b 64).map b32), .blk g5 161 ((rounds s (schw b 64) 64).map b32), .blk g2 161 [(b32 (0#32)), (b32 (0#32)), (b32 (0#32)), (b32 (0#32)), (b32 (0#32)), (b32 (0#32)), (b32 (0#32)), (b32 (0#32))], .blk g1 161 ((addt s (rounds s (schw b 64) 64) k).map b32), .rd (some ⟨gk, 0, none⟩) 1 64 64 (shaK.map b32), .rd A 1 64 c (b.map b8)] ⟨by decide, rfl⟩ ?_
   refine Tsr hF rfl ?_
   refine lo rfl (pr_cmp (bo := .lss) (nc_lt (a := k) (b := 8)) rfl rfl rfl rfl) rfl rfl ?_
   refine L_nil ?_
   refine T_seq ?_
   refine T_cond (decide (k < 8)) rfl (fun hc_40 => ?_) (fun hc_40 => ?_)
   ·
    have hc_40 := of_decide_eq_true hc_40
    refine T_skip ?_
    refine T_seq ?_
    refine T_block ?_
    refine Tsr hF rfl ?_
    refine lm rfl rfl rfl rfl rfl ?_
    refine la rfl rfl rfl rfl rfl ?_
    refine L_nil ?_
    refine T_regD [.blk g6 159 ((schw b 64).map b32), .blk g5 161 ((rounds s (schw b 64) 64).map b32), .blk g2 161 [(b32 (0#32)), (b32 (0#32)), (b32 (0#32)), (b32 (0#32)), (b32 (0#32)), (b32 (0#32)), (b32 (0#32)), (b32 (0#32))], .blk g1 161 ((addt s (rounds s (schw b 64) 64) k).map b32), .rd (some ⟨gk, 0, none⟩) 1 64 64 (shaK.map b32), .rd A 1 64 c (b.map b8)] 8 9 #[false, false, false, false, false, false, false, false, false] hF kr kr ?_
    refine D_pure (i := 0) [0, 1, 2, 3, 4, 5] rfl kr rfl (pr_move rfl rfl) (.inr rfl) rfl rfl ?_
    refine D_pure (i := 1) [0, 1, 2, 3, 4, 5] rfl kr rfl (pr_ixa (j := k) (m' := k) sd (by omega) Try.underlying161 (z := 1) kr rfl rfl rfl) (.inr rfl) rfl rfl ?_
    refine D_pure (i := 3) [0, 1, 2, 3, 4, 5] rfl kr rfl (pr_move rfl rfl) (.inr rfl) rfl rfl ?_
    refine D_pure (i := 4) [0, 1, 2, 3, 4, 5] rfl kr rfl (pr_ixa (j := k) (m' := k) sd (by omega) Try.underlying161 (z := 1) kr rfl rfl rfl) (.inr rfl) rfl rfl ?_
    refine D_take (i := 2) [0, 1, 2, 3, 4, 5] rfl kr rfl (ld_blk 3 rfl (get32 sd) Try.underlying112 rfl rfl rfl) rfl rfl rfl ?_
    refine D_take (i := 5) [0, 1, 2, 3, 4, 5] rfl kr rfl (ld_blk 1 rfl (get32 sd) Try.underlying112 rfl rfl rfl) rfl rfl rfl ?_
    refine D_pure (i := 6) [0, 1, 2, 3, 4, 5] rfl kr rfl (pr_add (add32 _ _) rfl rfl rfl) (.inr rfl) rfl rfl ?_
    refine D_pure (i := 7) [0, 1, 2, 3, 4, 5] rfl kr rfl (pr_ixa (j := k) (m' := k) sd (by omega) Try.underlying161 (z := 1) kr rfl rfl rfl) (.inr rfl) rfl rfl ?_
    refine D_one 8 _ rfl kr rfl (op_store (vs := [(b32 ((ath (addt s (rounds s (schw b 64) 64) k) k) + (ath (rounds s (schw b 64) 64) k)))]) (cs' := ((List.set (addt s (rounds s (schw b 64) 64) k) k ((ath (addt s (rounds s (schw b 64) 64) k) k) + (ath (rounds s (schw b 64) 64) k))).map b32)) 3 rfl rfl kr (one_one rfl) (stl sd) (splice_map (f := b32) sd) rfl rfl rfl rfl ?_)
    refine D_past kr ?_
    refine D_done kr ?_
    refine T_reg hF rfl ?_
    refine lo rfl (pr_add (na_i64 (a := k) (b := 1) sd) rfl rfl rfl) rfl rfl ?_
    refine lm rfl rfl rfl rfl rfl ?_
    refine L_nil ?_
    refine T_as 0 _ (.blk g1 161 ((addt s (rounds s (schw b 64) 64) (k + 1)).map b32)) rfl (by rw [addt_succ]) ?_
    exact T_again (k + 1) (by first | trivial | ((try dsimp only); first | omega | (refine ⟨?_, ?_⟩ <;> omega) | (refine ⟨?_, ?_, ?_⟩ <;> omega) | (simp; done) | (simp; omega))) (by first | trivial | ((try dsimp only); first | omega | (refine ⟨?_, ?_⟩ <;> omega) | (refine ⟨?_, ?_, ?_⟩ <;> omega) | (simp; done) | (simp; omega))) (sc rfl (sc rfl (sc rfl (sc rfl sn)))) [1, 2, 3, 0, 4, 5] ⟨by decide, rfl⟩
   ·
    have hc_40 := of_decide_eq_false hc_40
    refine T_exit rfl ?_
    refine Tsr hF rfl ?_
    refine lq rfl (ld_agg (ds := ((addt s (rounds s (schw b 64) 64) k).map b32)) 3 rfl agg_all Try.underlying161 rfl (fwz (n := 8) kr sd) rfl rfl) rfl rfl ?_
    refine L_op rfl (op_sto (n := 8) (vs := ((addt s (rounds s (schw b 64) 64) k).map b32)) 2 rfl rfl kr (all32_one _) kr sd rfl rfl rfl rfl ?_)
    refine L_nil ?_
    refine T_ret ?_
    obtain rfl : 8 = k := by omega
    refine T_as 0 _ (.blk g2 161 ((mixb s b).map b32)) rfl (by rw [mixb_def]) ?_
    exact T_fin () (by first | trivial | omega | (simp; done)) (resb 0 rfl rfl rfl Try.underlying161 rfl (fwz (n := 8) kr sd)) [] ⟨by decide, rfl⟩ rfl
end Go.Proofs.Ytlplpmkdebemnaa
namespace Go.Proofs.Ytlplpmkdebemnaa
set_option linter.unusedVariables false
set_option linter.unusedSimpArgs false
set_option linter.unnecessarySimpa false
set_option maxRecDepth 100000
open Go.RowKit Bv Fw

theorem catp_nil : catp [] = [] := rfl
theorem catp_cons (p : Pt) (L : List Pt) : catp (p :: L) = p.xs ++ catp L := by simp [catp]

set_option maxHeartbeats 4000000 in
theorem sum_f (Q : List Pt) (A : Option Addr) (n : Nat) (c : Nat) (w : World) (hO : HOK [.rd A 1 n c (Q.map Pt.sl), .all Q] w) (hn : Q.length = n) (hs : (catp Q).length ≤ 1000000000) (hn2 : n ≤ 1000000000) : Calls Try.prog 103 [(.slice A n c)].toArray w (Ret (T := Unit) [] w (fun _ => True) (fun _ => (.agg ((shasum (catp Q)).map b8).toArray)) (fun _ => [])) := by
 have hkl : shaK.length = 64 := shaK_len
 have hpl : plen (catp Q).length ≤ 72 := plen_le _
 have hml := shamsg_len (catp Q)
 have hpbl := padb_len (catp Q).length
 have hsl := shasum_len (catp Q)
 have hHl := shaH_len
 have hstl := fun k => hst_len (shamsg (catp Q)) k
 have hsol := fun s k => shaout_len s k
 have hF : Wid Fence.wide := wid_wide
 refine enter_m (c := _) Try.func103 rfl [] _ [.rd A 1 n c (Q.map Pt.sl), .all Q] (by rw [Try.ntmps103]; rfl) (own_rds hO rfl) ?_
 rw [Try.ntmps103]
 refine T_re [(0, (.slice A n c))] (sc rfl sn) ?_
 refine T_he [0, 1] [.rd A 1 n c (Q.map Pt.sl), .all Q] ⟨by decide, rfl⟩ ?_
 refine Tsr hF rfl ?_
 refine L_op rfl (op_alloc (z := .agg ((List.replicate 32 0#8).map b8).toArray) (zs := ((List.replicate 32 0#8).map b8)) kr rfl rfl rfl rfl (fun g1 => ?_))
 refine L_nil ?_
 refine Tsr hF rfl ?_
 refine lm rfl rfl rfl rfl rfl ?_
 refine L_op rfl (op_cn (fun w hw => concat_f Q A n c w (hok_cons ((src_rd 1 rfl) w hw) (hok_cons (hw _ (List.mem_of_getElem? (i := 2) rfl)) (hok_nil w))) sd sd sd) (enters_of Try.func91 kr rfl) rfl rfl rfl rfl rfl (fun t2 q3 => ?_))
 obtain ⟨B4, d5⟩ := t2
 refine la rfl rfl rfl rfl rfl ?_
 refine L_nil ?_
 refine Tsr hF rfl ?_
 refine lm rfl rfl rfl rfl rfl ?_
 refine lm rfl rfl rfl rfl rfl ?_
 refine lo rfl (pr_len_sl Try.underlying23 rfl rfl) rfl rfl ?_
 refine L_op rfl (op_cn (fun w hw => pad_f ((catp Q).length) w (hok_nil w) sd) (enters_of Try.func106 kr rfl) rfl rfl rfl rfl rfl (fun t6 q7 => ?_))
 obtain ⟨B8, d9⟩ := t6
 refine L_op rfl (op_append (z := (b8 (0#8))) (size := 1) (bytes := 1) 1 rfl Try.underlying23 kr kr (by decide) (src_row 0 rfl) (all8_one _) sd sd rfl rfl rfl rfl rfl (fun A10 C11 => ?_))
 refine T_as 0 _ (.row (.slice A10 ((catp Q).length + (plen ((catp Q).length))) C11) 5 1 ((catp Q).length + (plen ((catp Q).length))) (((catp Q) ++ padb ((catp Q).length)).map b8)) rfl (by first | rfl | (congr 1; simp; done) | (simp only [List.map_append]; rfl) | (rw [List.map_append]; rfl)) ?_
 refine la rfl rfl rfl rfl rfl ?_
 refine L_nil ?_
 refine Tsr hF rfl ?_
 refine L_op rfl (op_cn (fun w hw => words_f  w (hok_nil w) ) (enters_of Try.func107 kr rfl) rfl rfl rfl rfl rfl (fun t12 q13 => ?_))
 refine L_op rfl (op_alloc (z := .agg ((List.replicate 64 0#32).map b32).toArray) (zs := ((List.replicate 64 0#32).map b32)) kr rfl rfl rfl rfl (fun g14 => ?_))
 refine L_op rfl (op_sto (n := 64) (vs := (shaK.map b32)) 0 rfl rfl kr (all32_one _) kr sd rfl rfl rfl rfl ?_)
 refine L_nil ?_
 refine Tsr hF rfl ?_
 refine lo rfl (pr_build (qs := [(0, (b32 (1779033703#32))), (1, (b32 (3144134277#32))), (2, (b32 (1013904242#32))), (3, (b32 (2773480762#32))), (4, (b32 (1359893119#32))), (5, (b32 (2600822924#32))), (6, (b32 (528734635#32))), (7, (b32 (1541459225#32)))]) (v := .agg [(b32 (1779033703#32)), (b32 (3144134277#32)), (b32 (1013904242#32)), (b32 (2773480762#32)), (b32 (1359893119#32)), (b32 (2600822924#32)), (b32 (528734635#32)), (b32 (1541459225#32))].toArray) (fun _ => by kernel_rfl) rfl rfl) rfl rfl ?_
 refine L_op rfl (op_alloc (z := .agg [(b32 (0#32)), (b32 (0#32)), (b32 (0#32)), (b32 (0#32)), (b32 (0#32)), (b32 (0#32)), (b32 (0#32)), (b32 (0#32))].toArray) (zs := [(b32 (0#32)), (b32 (0#32)), (b32 (0#32)), (b32 (0#32)), (b32 (0#32)), (b32 (0#32)), (b32 (0#32)), (b32 (0#32))]) kr rfl rfl rfl rfl (fun g15 => ?_))
 refine L_op rfl (op_sto (n := 8) (vs := [(b32 (1779033703#32)), (b32 (3144134277#32)), (b32 (1013904242#32)), (b32 (2773480762#32)), (b32 (1359893119#32)), (b32 (2600822924#32)), (b32 (528734635#32)), (b32 (1541459225#32))]) 0 rfl rfl kr (by simp [Value.oneCell']) kr kr rfl rfl rfl rfl ?_)
 refine L_nil ?_
 refine T_seq ?_
 refine Tsr hF rfl ?_
 refine lm rfl rfl rfl rfl rfl ?_
 refine L_op rfl (op_cn (fun w hw => chunk_f A10 ((catp Q).length + (plen ((catp Q).length))) C11 64 w (hok_nil w) sd) (enters_of Try.func44 kr rfl) rfl rfl rfl rfl rfl (fun t16 q17 => ?_))
 obtain ⟨g1_18, g2_19⟩ := t16
 refine L_nil ?_
 refine T_block ?_
 refine T_tord 0 rfl ?_
 refine T_tord 1 rfl ?_
 refine T_old 4 rfl ?_
 refine T_tord 0 rfl ?_
 refine T_as 3 _ (.blk g15 161 ((hst (shamsg (catp Q)) 0).map b32)) rfl (by rw [hst_zero]; unfold shaH; rfl) ?_
 refine T_range (Θ := Option Addr) (T := Unit) (Tx := Unit) (cap := [(.pointer (some ⟨g1_18, 0, none⟩)), (.pointer (some ⟨g2_19, 0, none⟩))]) (ps := [21]) (chunk_seq ((catp Q) ++ padb ((catp Q).length)) 64 A10 ((catp Q).length + (plen ((catp Q).length))) C11 g1_18 g2_19 sd sd sd sd) rfl (enters_of Try.func65 kr rfl) (fun k _ => True) (fun k _ => [.rd A10 1 ((catp Q).length + (plen ((catp Q).length))) C11 (((catp Q) ++ padb ((catp Q).length)).map b8), .rd (some ⟨g2_19, 0, none⟩) 1 1 1 [(.int .i64 ((64 : Nat) : Int))], .rd (some ⟨g1_18, 0, none⟩) 1 1 1 [(.slice A10 ((catp Q).length + (plen ((catp Q).length))) C11)], .blk g15 161 ((hst (shamsg (catp Q)) k).map b32), .blk g14 159 (shaK.map b32), .row (.slice B8 (plen ((catp Q).length)) d9) 5 1 (plen ((catp Q).length)) ((padb ((catp Q).length)).map b8), .blk g1 50 ((List.replicate 32 0#8).map b8), .rd A 1 n c (Q.map Pt.sl), .all Q]) (fun _ => False) (fun _ => []) 0 () (by first | trivial | ((try dsimp only); first | omega | (refine ⟨?_, ?_⟩ <;> omega) | (refine ⟨?_, ?_, ?_⟩ <;> omega) | (simp; done) | (simp; omega))) [1, 2, 3, 0, 4, 5, 6, 7, 8] ⟨by decide, rfl⟩ [3, 2, 1] rfl rfl (fun _ _ => rfl) (fun _ => rfl) (fun _ _ => rfl) (fun _ _ => rfl) rfl (fun _ => trivial) ?_ ?_ ?_
 ·
  intro C2 w2 lo2 rs2 l D m k t th rc hrec hk hp
  obtain ⟨B, rfl⟩ : ∃ x, x = th := ⟨_, rfl⟩
  have hp : True := hp
  have hk : k < (((catp Q).length + (plen ((catp Q).length))) + 64 - 1) / 64 := hk
  obtain ⟨hmin, hb64⟩ := shablk (catp Q) k hk
  have hk8 := hstl k
  have hk9 := (mixb_len (hst (shamsg (catp Q)) k) (List.take 64 (List.drop (64 * k) (shamsg (catp Q))))).trans hk8
  have hF : Wid (Fence.wide.inRound l) := wid_round l
  refine T_re [(4, (.pointer (some ⟨g14, 0, none⟩))), (5, (.pointer (some ⟨g15, 0, none⟩))), (21, (.slice B (min 64 (((catp Q).length + (plen ((catp Q).length))) - 64 * k)) (min 64 (((catp Q).length + (plen ((catp Q).length))) - 64 * k))))] (sc rfl (sc rfl (sc rfl sn))) ?_
  refine T_he [0, 1, 2, 3, 4, 5, 6, 7, 8, 9, 10, 11] [.rd B 1 (min 64 (((catp Q).length + (plen ((catp Q).length))) - 64 * k)) (min 64 (((catp Q).length + (plen ((catp Q).length))) - 64 * k)) ((List.take (min 64 (((catp Q).length + (plen ((catp Q).length))) - 64 * k)) (List.drop (64 * k) ((catp Q) ++ padb ((catp Q).length)))).map b8), .obj l (.loop rc), .obj D (.deferred (some [])), .rd A10 1 ((catp Q).length + (plen ((catp Q).length))) C11 (((catp Q) ++ padb ((catp Q).length)).map b8), .rd (some ⟨g2_19, 0, none⟩) 1 1 1 [(.int .i64 ((64 : Nat) : Int))], .rd (some ⟨g1_18, 0, none⟩) 1 1 1 [(.slice A10 ((catp Q).length + (plen ((catp Q).length))) C11)], .blk g15 161 ((hst (shamsg (catp Q)) k).map b32), .blk g14 159 (shaK.map b32), .row (.slice B8 (plen ((catp Q).length)) d9) 5 1 (plen ((catp Q).length)) ((padb ((catp Q).length)).map b8), .blk g1 50 ((List.replicate 32 0#8).map b8), .rd A 1 n c (Q.map Pt.sl), .all Q] ⟨by decide, rfl⟩ ?_
  refine T_slot 21 _ (.slice B 64 64) rfl (by rw [hmin]) ?_
  refine T_as 0 _ (.rd B 1 64 64 ((List.take 64 (List.drop (64 * k) (shamsg (catp Q)))).map b8)) rfl (by rw [hmin, shamsg_def]) ?_
  refine T_reg hF rfl ?_
  refine la rfl rfl rfl rfl rfl ?_
  refine L_nil ?_
  refine T_begun 1 rfl hrec ?_
  refine T_block ?_
  refine T_reg hF rfl ?_
  refine lq rfl (ld_agg (ds := ((hst (shamsg (catp Q)) k).map b32)) 6 rfl agg_all Try.underlying161 rfl (fwz (n := 8) kr sd) rfl rfl) rfl rfl ?_
  refine lm rfl rfl rfl rfl rfl ?_
  refine L_op rfl (op_cn (fun w hw => mixed_f (hst (shamsg (catp Q)) k) g14 (List.take 64 (List.drop (64 * k) (shamsg (catp Q)))) B 64 w (hok_cons ((src_full (z := 1) 7 rfl sd sd sd) w hw) (hok_cons ((src_rd 1 rfl) w hw) (hok_nil w))) sd sd) (enters_of Try.func108 kr rfl) rfl rfl rfl rfl rfl (fun t20 q21 => ?_))
  refine L_op rfl (op_sto (n := 8) (vs := ((mixb (hst (shamsg (catp Q)) k) (List.take 64 (List.drop (64 * k) (shamsg (catp Q))))).map b32)) 6 rfl rfl kr (all32_one _) sd sd rfl rfl rfl rfl ?_)
  refine L_nil ?_
  refine T_as 0 _ (.blk g15 161 ((hst (shamsg (catp Q)) (k + 1)).map b32)) rfl (by rw [hst_succ]) ?_
  exact T_on () (by first | trivial | ((try dsimp only); first | omega | (refine ⟨?_, ?_⟩ <;> omega) | (refine ⟨?_, ?_, ?_⟩ <;> omega) | (simp; done) | (simp; omega))) [1, 3, 4, 5, 6, 0, 7, 8, 9, 10, 11] ⟨by decide, rfl⟩
 ·
  intro D t hp
  have hp : True := hp
  have hk8 := hstl (((catp Q).length + plen (catp Q).length + 64 - 1) / 64)
  refine T_re [(2, (.pointer (some ⟨g1, 0, none⟩))), (5, (.pointer (some ⟨g15, 0, none⟩)))] (sc rfl (sc rfl sn)) ?_
  refine T_he [0, 1, 2, 3, 4, 5, 6, 7, 8, 9] [.obj D (.deferred (some [])), .rd A10 1 ((catp Q).length + (plen ((catp Q).length))) C11 (((catp Q) ++ padb ((catp Q).length)).map b8), .rd (some ⟨g2_19, 0, none⟩) 1 1 1 [(.int .i64 ((64 : Nat) : Int))], .rd (some ⟨g1_18, 0, none⟩) 1 1 1 [(.slice A10 ((catp Q).length + (plen ((catp Q).length))) C11)], .blk g15 161 ((hst (shamsg (catp Q)) ((((catp Q).length + (plen ((catp Q).length))) + 64 - 1) / 64)).map b32), .blk g14 159 (shaK.map b32), .row (.slice B8 (plen ((catp Q).length)) d9) 5 1 (plen ((catp Q).length)) ((padb ((catp Q).length)).map b8), .blk g1 50 ((List.replicate 32 0#8).map b8), .rd A 1 n c (Q.map Pt.sl), .all Q] ⟨by decide, rfl⟩ ?_
  refine Tsr hF rfl ?_
  refine L_op rfl (op_make (z := (b8 (0#8))) (n := 0) (c := 32) Try.underlying23 (bytes := 1) kr rfl sd sd sd rfl rfl rfl rfl rfl (fun g22 => ?_))
  refine T_as 0 _ (.blk g22 5 ((List.replicate 32 0#8).map b8)) rfl (by rw [List.map_replicate]) ?_
  refine la rfl rfl rfl rfl rfl ?_
  refine L_nil ?_
  refine T_seq ?_
  refine Tsr hF rfl ?_
  refine lq rfl (ld_agg (ds := ((hst (shamsg (catp Q)) ((((catp Q).length + (plen ((catp Q).length))) + 64 - 1) / 64)).map b32)) 5 rfl agg_all Try.underlying161 rfl (fwz (n := 8) kr sd) rfl rfl) rfl rfl ?_
  refine lm rfl rfl rfl rfl rfl ?_
  refine L_nil ?_
  refine T_block ?_
  refine T_slot 7 (.slice (some ⟨g22, 0, none⟩) 0 32) (.slice (some ⟨g22, 0, none⟩) (4 * 0) 32) rfl (by first | rfl | (congr 2; omega) | (simp; omega)) ?_
  refine T_rowb 0 (zs := ((shaout (hst (shamsg (catp Q)) (((catp Q).length + plen (catp Q).length + 64 - 1) / 64)) 0).map b8)) 1 (4 * 0) 32 rfl sd sd sd (by rw [shaout_zero]; rfl) ?_
  refine T_loop (T := Nat × Option Addr × Nat) (fun ⟨k, A1, c1⟩ => k ≤ 8) (fun ⟨k, A1, c1⟩ => [(2, (.pointer (some ⟨g1, 0, none⟩))), (7, (.slice A1 (4 * k) c1)), (26, (.agg ((hst (shamsg (catp Q)) ((((catp Q).length + (plen ((catp Q).length))) + 64 - 1) / 64)).map b32).toArray)), (27, (.int .i64 ((k : Nat) : Int)))]) (fun ⟨k, A1, c1⟩ => [.row (.slice A1 (4 * k) c1) 5 1 (4 * k) ((shaout (hst (shamsg (catp Q)) (((catp Q).length + plen (catp Q).length + 64 - 1) / 64)) k).map b8), .obj D (.deferred (some [])), .rd A10 1 ((catp Q).length + (plen ((catp Q).length))) C11 (((catp Q) ++ padb ((catp Q).length)).map b8), .rd (some ⟨g2_19, 0, none⟩) 1 1 1 [(.int .i64 ((64 : Nat) : Int))], .rd (some ⟨g1_18, 0, none⟩) 1 1 1 [(.slice A10 ((catp Q).length + (plen ((catp Q).length))) C11)], .blk g15 161 ((hst (shamsg (catp Q)) ((((catp Q).length + (plen ((catp Q).length))) + 64 - 1) / 64)).map b32), .blk g14 159 (shaK.map b32), .row (.slice B8 (plen ((catp Q).length)) d9) 5 1 (plen ((catp Q).length)) ((padb ((catp Q).length)).map b8), .blk g1 50 ((List.replicate 32 0#8).map b8), .rd A 1 n c (Q.map Pt.sl), .all Q]) (fun ⟨k, A1, c1⟩ => 8 - k) (0, some ⟨g22, 0, none⟩, 32) (by first | trivial | ((try dsimp only); first | omega | (refine ⟨?_, ?_⟩ <;> omega) | (refine ⟨?_, ?_, ?_⟩ <;> omega) | (simp; done) | (simp; omega))) (sc rfl (sc rfl (sc rfl (sc rfl sn)))) [0, 1, 2, 3, 4, 5, 6, 7, 8, 9, 10] ⟨by decide, rfl⟩ ?_
  rintro ⟨k, A1, c1⟩ hp
  have hp : k ≤ 8 := hp
  have hkl2 := hsol (hst (shamsg (catp Q)) (((catp Q).length + plen (catp Q).length + 64 - 1) / 64)) k
  refine T_re [(2, (.pointer (some ⟨g1, 0, none⟩))), (7, (.slice A1 (4 * k) c1)), (26, (.agg ((hst (shamsg (catp Q)) ((((catp Q).length + (plen ((catp Q).length))) + 64 - 1) / 64)).map b32).toArray)), (27, (.int .i64 ((k : Nat) : Int)))] (sc rfl (sc rfl (sc rfl (sc rfl sn)))) ?_
  refine T_he [0, 1, 2, 3, 4, 5, 6, 7, 8, 9, 10] [.row (.slice A1 (4 * k) c1) 5 1 (4 * k) ((shaout (hst (shamsg (catp Q)) (((catp Q).length + plen (catp Q).length + 64 - 1) / 64)) k).map b8), .obj D (.deferred (some [])), .rd A10 1 ((catp Q).length + (plen ((catp Q).length))) C11 (((catp Q) ++ padb ((catp Q).length)).map b8), .rd (some ⟨g2_19, 0, none⟩) 1 1 1 [(.int .i64 ((64 : Nat) : Int))], .rd (some ⟨g1_18, 0, none⟩) 1 1 1 [(.slice A10 ((catp Q).length + (plen ((catp Q).length))) C11)], .blk g15 161 ((hst (shamsg (catp Q)) ((((catp Q).length + (plen ((catp Q).length))) + 64 - 1) / 64)).map b32), .blk g14 159 (shaK.map b32), .row (.slice B8 (plen ((catp Q).length)) d9) 5 1 (plen ((catp Q).length)) ((padb ((catp Q).length)).map b8), .blk g1 50 ((List.replicate 32 0#8).map b8), .rd A 1 n c (Q.map Pt.sl), .all Q] ⟨by decide, rfl⟩ ?_
  refine Tsr hF rfl ?_
  refine lo rfl (pr_cmp (bo := .lss) (nc_lt (a := k) (b := 8)) rfl rfl rfl rfl) rfl rfl ?_
  refine L_nil ?_
  refine T_seq ?_
  refine T_cond (decide (k < 8)) rfl (fun hc_23 => ?_) (fun hc_23 => ?_)
  ·
   have hc_23 := of_decide_eq_true hc_23
   refine T_skip ?_
   refine T_seq ?_
   refine T_block ?_
   refine Tsr hF rfl ?_
   refine lo rfl (pr_ix (cs := ((hst (shamsg (catp Q)) ((((catp Q).length + (plen ((catp Q).length))) + 64 - 1) / 64)).map b32)) (j := k) sd (get32 sd) Try.underlying161 Try.underlying112 rfl kr rfl rfl rfl) rfl rfl ?_
   refine la rfl rfl rfl rfl rfl ?_
   refine L_nil ?_
   refine T_reg hF rfl ?_
   refine lm rfl rfl rfl rfl rfl ?_
   refine lm rfl rfl rfl rfl rfl ?_
   refine lo rfl (pr_cv (cv32_64 _) Try.underlying112 Try.underlying30 rfl rfl) rfl rfl ?_
   refine L_op rfl (op_c1 0 rfl (fun w hw => putHigh_f (shaout (hst (shamsg (catp Q)) (((catp Q).length + plen (catp Q).length + 64 - 1) / 64)) k) ((ath (hst (shamsg (catp Q)) ((((catp Q).length + (plen ((catp Q).length))) + 64 - 1) / 64)) k).setWidth 64) 4 A1 (4 * k) c1 w (hw _ (List.mem_of_getElem? (i := 0) rfl)) sd sd) (enters_of Try.func109 kr rfl) rfl rfl rfl rfl rfl (fun t24 q25 => ?_))
   obtain ⟨B26, d27⟩ := t24
   refine la rfl rfl rfl rfl rfl ?_
   refine L_nil ?_
   refine T_reg hF rfl ?_
   refine lo rfl (pr_add (na_i64 (a := k) (b := 1) sd) rfl rfl rfl) rfl rfl ?_
   refine lm rfl rfl rfl rfl rfl ?_
   refine L_nil ?_
   refine T_slot 7 (.slice B26 ((4 * k) + 4) d27) (.slice B26 (4 * (k + 1)) d27) rfl (by first | rfl | (congr 2; omega) | (simp; omega)) ?_
   refine T_as 0 _ (.row (.slice B26 (4 * (k + 1)) d27) 5 1 (4 * (k + 1)) ((shaout (hst (shamsg (catp Q)) (((catp Q).length + plen (catp Q).length + 64 - 1) / 64)) (k + 1)).map b8)) rfl (by rw [shaout_succ]; congr 1) ?_
   exact T_again (k + 1, B26, d27) (by first | trivial | ((try dsimp only); first | omega | (refine ⟨?_, ?_⟩ <;> omega) | (refine ⟨?_, ?_, ?_⟩ <;> omega) | (simp; done) | (simp; omega))) (by first | trivial | ((try dsimp only); first | omega | (refine ⟨?_, ?_⟩ <;> omega) | (refine ⟨?_, ?_, ?_⟩ <;> omega) | (simp; done) | (simp; omega))) (sc rfl (sc rfl (sc rfl (sc rfl sn)))) [0, 1, 2, 3, 4, 5, 6, 7, 8, 9, 10] ⟨by decide, rfl⟩
  ·
   have hc_23 := of_decide_eq_false hc_23
   refine T_exit rfl ?_
   obtain rfl : 8 = k := by omega
   have hk32 := hsol (hst (shamsg (catp Q)) (((catp Q).length + plen (catp Q).length + 64 - 1) / 64)) 8
   refine Tsr hF rfl ?_
   refine lm rfl rfl rfl rfl rfl ?_
   refine lo rfl (pr_s2a sd Try.underlying50 rfl rfl) rfl rfl ?_
   refine lq rfl (ld_aggs (ds := ((shaout (hst (shamsg (catp Q)) (((catp Q).length + plen (catp Q).length + 64 - 1) / 64)) 8).map b8)) (src_row 0 rfl) (List.take_length) (by have h1 : (((shaout (hst (shamsg (catp Q)) (((catp Q).length + plen (catp Q).length + 64 - 1) / 64)) 8).map b8)).length = 32 := sd; omega) Try.underlying50 rfl (fwz (n := 32) kr sd) rfl rfl) rfl rfl ?_
   refine L_op rfl (op_sto (n := 32) (vs := ((shaout (hst (shamsg (catp Q)) (((catp Q).length + plen (catp Q).length + 64 - 1) / 64)) 8).map b8)) 8 rfl rfl kr (all8_one _) kr sd rfl rfl rfl rfl ?_)
   refine L_nil ?_
   refine T_ret ?_
   refine T_as 0 _ (.blk g1 50 ((shasum (catp Q)).map b8)) rfl (by rw [shasum_def]) ?_
   exact T_finM 2 rfl () (by first | trivial | omega | (simp; done)) (resb 0 rfl rfl rfl Try.underlying50 rfl (fwz (n := 32) kr sd)) [] ⟨by decide, rfl⟩ rfl
 ·
  exact fun D t hq => hq.elim
end Go.Proofs.Ytlplpmkdebemnaa
namespace Go.Proofs.Ytlplpmkdebemnaa
set_option linter.unusedVariables false
set_option linter.unusedSimpArgs false
open Bv
theorem high4_32 (ys : List (BitVec 8)) : (high ys 4).setWidth 32 = ((ath ys 0).setWidth 32 <<< 24 ||| (ath ys 1).setWidth 32 <<< 16) ||| (ath ys 2).setWidth 32 <<< 8 ||| (ath ys 3).setWidth 32 := by
  have e : high ys 4 = ((((0#64 <<< 8 ||| (ath ys 0).setWidth 64) <<< 8 ||| (ath ys 1).setWidth 64) <<< 8 ||| (ath ys 2).setWidth 64) <<< 8 ||| (ath ys 3).setWidth 64) := rfl
  rw [e]
  generalize ath ys 0 = a
  generalize ath ys 1 = b
  generalize ath ys 2 = c
  generalize ath ys 3 = d
  ext i hi
  simp only [BitVec.getElem_setWidth, BitVec.getElem_or, BitVec.getElem_shiftLeft, BitVec.getLsbD_or, BitVec.getLsbD_shiftLeft, BitVec.getLsbD_setWidth]
  rcases (by omega : i = 0 ∨ i = 1 ∨ i = 2 ∨ i = 3 ∨ i = 4 ∨ i = 5 ∨ i = 6 ∨ i = 7 ∨ i = 8 ∨ i = 9 ∨ i = 10 ∨ i = 11 ∨ i = 12 ∨ i = 13 ∨ i = 14 ∨ i = 15 ∨ i = 16 ∨ i = 17 ∨ i = 18 ∨ i = 19 ∨ i = 20 ∨ i = 21 ∨ i = 22 ∨ i = 23 ∨ i = 24 ∨ i = 25 ∨ i = 26 ∨ i = 27 ∨ i = 28 ∨ i = 29 ∨ i = 30 ∨ i = 31) with rfl | rfl | rfl | rfl | rfl | rfl | rfl | rfl | rfl | rfl | rfl | rfl | rfl | rfl | rfl | rfl | rfl | rfl | rfl | rfl | rfl | rfl | rfl | rfl | rfl | rfl | rfl | rfl | rfl | rfl | rfl | rfl <;> simp
theorem rsch_lo (m : List (BitVec 8)) (k j : Nat) (h : j < 16) : (fil (schw (List.take 64 (List.drop (64 * k) m)) j) 64).set j (((ath m (64 * k + 4 * j)).setWidth 32 <<< 24 ||| (ath m (64 * k + 4 * j + 1)).setWidth 32 <<< 16) ||| (ath m (64 * k + 4 * j + 2)).setWidth 32 <<< 8 ||| (ath m (64 * k + 4 * j + 3)).setWidth 32) = fil (schw (List.take 64 (List.drop (64 * k) m)) (j + 1)) 64 := by
  rw [← schw_lo _ j h, high4_32]
  simp only [ath_drop]
  rw [ath_take _ _ _ (by omega), ath_take _ _ _ (by omega), ath_take _ _ _ (by omega), ath_take _ _ _ (by omega)]
  simp only [ath_drop, Nat.add_assoc, Nat.add_zero]
theorem shaout_at (s : List (BitVec 32)) (k : Nat) : ∀ j, j < 4 * k → ath (shaout s k) j = ((ath s (j / 4)) >>> (24 - 8 * (j % 4))).setWidth 8 := by
  induction k with
  | zero => intro j hj; omega
  | succ k ih =>
    intro j hj
    rw [shaout_succ]
    by_cases h : j < 4 * k
    · rw [ath_app_l _ _ _ (by rw [shaout_len]; exact h), ih j h]
    · rw [ath_app_r _ _ _ (by rw [shaout_len]; omega), shaout_len]
      obtain ⟨i, hi, rfl⟩ : ∃ i, i < 4 ∧ j = 4 * k + i := ⟨j - 4 * k, by omega, by omega⟩
      rw [show (4 * k + i) / 4 = k by omega, show (4 * k + i) % 4 = i by omega, show 4 * k + i - 4 * k = i by omega]
      have hb : ath (highb ((ath s k).setWidth 64) 4 4) i = (((ath s k).setWidth 64) >>> (8 * (3 - i))).setWidth 8 := by
        rcases (by omega : i = 0 ∨ i = 1 ∨ i = 2 ∨ i = 3) with rfl | rfl | rfl | rfl <;> rfl
      rw [hb, show 8 * (3 - i) = 24 - 8 * i by omega]
      generalize ath s k = x
      ext q hq
      simp [BitVec.getLsbD_setWidth]
      omega
/-- A list's first bytes, and zeros behind them. -/
def pre0 (xs : List (BitVec 8)) (n j : Nat) : List (BitVec 8) := xs.take j ++ List.replicate (n - j) 0#8
theorem pre0_zero (xs : List (BitVec 8)) (n : Nat) : List.replicate n 0#8 = pre0 xs n 0 := by simp [pre0]
theorem pre0_all (xs : List (BitVec 8)) (n : Nat) (h : xs.length = n) : pre0 xs n n = xs := by simp [pre0, ← h]
theorem pre0_len (xs : List (BitVec 8)) (n j : Nat) (h : xs.length = n) (hj : j ≤ n) : (pre0 xs n j).length = n := by simp [pre0]; omega
theorem pre0_set (xs : List (BitVec 8)) (n j : Nat) (h : xs.length = n) (hj : j < n) (v : BitVec 8) (hv : v = ath xs j) : (pre0 xs n j).set j v = pre0 xs n (j + 1) := by
  unfold pre0
  have hl : (xs.take j).length = j := by rw [List.length_take]; omega
  have ht : xs.take (j + 1) = xs.take j ++ [ath xs j] := by
    rw [List.take_add_one, List.getElem?_eq_getElem (by omega), ath_get xs j (by omega)]; rfl
  rw [List.set_append_right _ _ (by omega), hl, Nat.sub_self, show n - j = (n - (j + 1)) + 1 by omega, List.replicate_succ, List.set_cons_zero, hv, ht]
  simp
theorem sumout_set (s : List (BitVec 32)) (o : List (BitVec 8)) (ho : shaout s 8 = o) (hl : o.length = 32) (j : Nat) (hj : j < 32) : (pre0 o 32 j).set j (((ath s (j / 4)) >>> (24 - 8 * (j % 4))).setWidth 8) = pre0 o 32 (j + 1) := by
  refine pre0_set _ _ _ hl hj _ ?_
  subst ho
  exact (shaout_at s 8 j (by omega)).symm
theorem rnd_ref (s ws : List (BitVec 32)) (k : Nat) (a : List (BitVec 32)) (ha : rounds s ws k = a) : rounds s ws (k + 1) = rnd a (ath shaK k) (ath ws k) := by rw [rounds_succ, ha]
end Go.Proofs.Ytlplpmkdebemnaa
namespace Go.Proofs.Ytlplpmkdebemnaa
set_option linter.unusedVariables false
set_option linter.unusedSimpArgs false
open Bv Fw
theorem ath_range (f : Nat → BitVec 8) (n j : Nat) (h : j < n) : ath ((List.range n).map f) j = f j := by
  rw [ath_get _ _ (by simpa using h)]; simp
theorem ath_out (xs : List (BitVec 8)) (j : Nat) (h : xs.length ≤ j) : ath xs j = 0#8 := by
  simp [ath, List.getD_eq_getElem?_getD, h]
theorem ath_rep0 (n j : Nat) : ath (List.replicate n 0#8) j = 0#8 := by
  unfold ath
  rw [List.getD_eq_getElem?_getD, List.getElem?_replicate]
  split <;> rfl
/-- A key, padded, and turned by a byte: the first i of them. -/
def htn (k : List (BitVec 8)) (x : BitVec 8) (i : Nat) : List (BitVec 8) := (List.range 64).map fun j => if j < i then ath k j ^^^ x else ath k j
def hpad (k : List (BitVec 8)) (x : BitVec 8) : List (BitVec 8) := (List.range 64).map fun j => ath k j ^^^ x
theorem htn_len (k : List (BitVec 8)) (x : BitVec 8) (i : Nat) : (htn k x i).length = 64 := by simp [htn]
theorem hpad_len (k : List (BitVec 8)) (x : BitVec 8) : (hpad k x).length = 64 := by simp [hpad]
theorem hpad_at (k : List (BitVec 8)) (x : BitVec 8) (j : Nat) (h : j < 64) : ath (hpad k x) j = ath k j ^^^ x := ath_range _ _ _ h
theorem htn_at (k : List (BitVec 8)) (x : BitVec 8) (i j : Nat) (h : j < 64) : ath (htn k x i) j = if j < i then ath k j ^^^ x else ath k j := ath_range _ _ _ h
theorem htn_all (k : List (BitVec 8)) (x : BitVec 8) : htn k x 64 = hpad k x := by
  refine ext_ath (by rw [htn_len, hpad_len]) (fun j hj => ?_)
  rw [htn_len] at hj
  rw [htn_at _ _ _ _ hj, hpad_at _ _ _ hj, if_pos hj]
theorem htn_set (k : List (BitVec 8)) (x : BitVec 8) (i : Nat) (h : i < 64) : (htn k x i).set i (ath (htn k x i) i ^^^ x) = htn k x (i + 1) := by
  refine ext_ath (by simp [htn_len]) (fun j hj => ?_)
  rw [List.length_set, htn_len] at hj
  rw [ath_set _ _ _ _ (by rw [htn_len]; exact h), htn_at _ _ _ _ hj, htn_at _ _ _ _ hj, htn_at _ _ _ _ h]
  by_cases e : i = j
  · subst e; simp
  · rw [if_neg e]
    by_cases e2 : j < i
    · rw [if_pos e2, if_pos (by omega)]
    · rw [if_neg e2, if_neg (by omega)]
theorem htn_zero (k : List (BitVec 8)) (x : BitVec 8) (n m : Nat) (hk : k.length = n) (hn : n ≤ 64) (hm : m = n) : cop (List.replicate 64 0#8) 0 k m = htn k x 0 := by
  subst hm
  have e : cop (List.replicate 64 0#8) 0 k m = k ++ List.replicate (64 - m) 0#8 := by
    unfold cop
    rw [List.take_of_length_le (l := k) (by omega), hk, List.drop_replicate]
    simp only [List.take_zero, List.nil_append, Nat.zero_add]
  rw [e]
  refine ext_ath (by simp [htn_len]; omega) (fun j hj => ?_)
  have hj2 : j < 64 := by simp at hj; omega
  rw [htn_at _ _ _ _ hj2, if_neg (by omega)]
  by_cases h : j < k.length
  · rw [ath_app_l _ _ _ h]
  · rw [ath_app_r _ _ _ (by omega), ath_out k j (by omega)]
    exact ath_rep0 _ _
theorem hpre_set (k : List (BitVec 8)) (x c : BitVec 8) (i : Nat) (h : i < 64) (hc : c = ath k i) : (pre0 (hpad k x) 64 i).set i (c ^^^ x) = pre0 (hpad k x) 64 (i + 1) :=
  pre0_set _ _ _ (hpad_len k x) h _ (by rw [hpad_at _ _ _ h, hc])
def mackey (k : List (BitVec 8)) : List (BitVec 8) := if 64 < k.length then shasum k else k
/-- The tag of a key and a text. -/
def mactag (k t : List (BitVec 8)) : List (BitVec 8) := shasum (hpad (mackey k) 0x5c#8 ++ shasum (hpad (mackey k) 0x36#8 ++ t))
theorem mactag_len (k t : List (BitVec 8)) : (mactag k t).length = 32 := shasum_len _
theorem mactag_long (k t : List (BitVec 8)) (h : 64 < k.length) : shasum (hpad (shasum k) 0x5c#8 ++ shasum (hpad (shasum k) 0x36#8 ++ t)) = mactag k t := by unfold mactag mackey; rw [if_pos h]
theorem mactag_short (k t : List (BitVec 8)) (h : ¬ 64 < k.length) : shasum (hpad k 0x5c#8 ++ shasum (hpad k 0x36#8 ++ t)) = mactag k t := by unfold mactag mackey; rw [if_neg h]
attribute [irreducible] htn hpad mactag mackey
end Go.Proofs.Ytlplpmkdebemnaa
namespace Go.Proofs.Ytlplpmkdebemnaa
set_option linter.unusedVariables false
set_option linter.unusedSimpArgs false
set_option linter.unnecessarySimpa false
set_option maxRecDepth 100000
open Go.RowKit Bv Fw

theorem pat_opt (Q : List Pt) (k : Nat) (h : k < Q.length) : Q[k]?.toList = [pat Q k] := by unfold pat; rw [List.getD_eq_getElem?_getD, List.getElem?_eq_getElem h]; rfl

set_option maxHeartbeats 4000000 in
theorem values_seq (Q : List Pt) (A : Option Addr) (n : Nat) (c : Nat) (g1 : Nat) (hq : Q.length = n) (hn : n ≤ 100000000000000) : SeqC (Θ := Unit) Try.prog 110 [(.pointer (some ⟨g1, 0, none⟩))] [.rd (some ⟨g1, 0, none⟩) 1 1 1 [(.slice A n c)], .rd A 1 n c (Q.map Pt.sl), .all Q] n (fun k _ => [(.slice ((pat Q k).A) ((pat Q k).n) ((pat Q k).c))]) (fun k _ => [.rd ((pat Q k).A) 1 ((pat Q k).n) ((pat Q k).c) (((pat Q k).xs).map b8)]) := by
 have hF : Wid Fence.wide := wid_wide
 refine enter_seq (c := _) Try.func110 rfl (by rw [Try.ntmps110]; rfl) rfl ?_
 intro l J Jx W O R hsJ hsX hy hend
 rw [Try.ntmps110]
 refine T_re [(0, (.func (.yield l) #[] #[])), (1, (.pointer (some ⟨g1, 0, none⟩)))] (sc rfl (sc rfl sn)) ?_
 refine T_he [0, 1, 2, 3] [.inv W.heap.size O R (J 0 O R), .rd (some ⟨g1, 0, none⟩) 1 1 1 [(.slice A n c)], .rd A 1 n c (Q.map Pt.sl), .all Q] ⟨by decide, rfl⟩ ?_
 refine Tsr hF rfl ?_
 refine lq rfl (ld_rdb (src_rd 1 rfl) rfl Try.underlying127 rfl rfl rfl) rfl rfl ?_
 refine lo rfl (pr_len_sl Try.underlying127 rfl rfl) rfl rfl ?_
 refine lm rfl rfl rfl rfl rfl ?_
 refine L_nil ?_
 refine T_block ?_
 refine T_loop (T := Nat × List Nat × List Nat) (fun ⟨k, O, R⟩ => k ≤ n) (fun ⟨k, O, R⟩ => [(0, (.func (.yield l) #[] #[])), (5, (.slice A n c)), (6, (.int .i64 ((n : Nat) : Int))), (7, (.int .i64 ((k : Nat) : Int)))]) (fun ⟨k, O, R⟩ => [.inv W.heap.size O R (J k O R), .rd (some ⟨g1, 0, none⟩) 1 1 1 [(.slice A n c)], .rd A 1 n c (Q.map Pt.sl), .all Q]) (fun ⟨k, O, R⟩ => n - k) (0, O, R) (by first | trivial | ((try dsimp only); first | omega | (refine ⟨?_, ?_⟩ <;> omega) | (refine ⟨?_, ?_, ?_⟩ <;> omega) | (simp; done) | (simp; omega))) (sc rfl (sc rfl (sc rfl (sc rfl sn)))) [0, 1, 2, 3] ⟨by decide, rfl⟩ ?_
 rintro ⟨k, O, R⟩ hp
 have hp : k ≤ n := hp
 refine T_re [(0, (.func (.yield l) #[] #[])), (5, (.slice A n c)), (6, (.int .i64 ((n : Nat) : Int))), (7, (.int .i64 ((k : Nat) : Int)))] (sc rfl (sc rfl (sc rfl (sc rfl sn)))) ?_
 refine T_he [0, 1, 2, 3] [.inv W.heap.size O R (J k O R), .rd (some ⟨g1, 0, none⟩) 1 1 1 [(.slice A n c)], .rd A 1 n c (Q.map Pt.sl), .all Q] ⟨by decide, rfl⟩ ?_
 refine Tsr hF rfl ?_
 refine lo rfl (pr_cmp (bo := .lss) (nc_lt (a := k) (b := n)) rfl rfl rfl rfl) rfl rfl ?_
 refine L_nil ?_
 refine T_seq ?_
 refine T_cond (decide (k < n)) rfl (fun hc_1 => ?_) (fun hc_1 => ?_)
 ·
  have hc_1 := of_decide_eq_true hc_1
  refine T_skip ?_
  refine T_seq ?_
  refine T_block ?_
  refine Tsr hF rfl ?_
  refine lo rfl (pr_ixs1 (j := k) (src_none (src_rd 2 rfl)) sd Try.underlying127 kr rfl rfl rfl) rfl rfl ?_
  refine lq rfl (ld_src (m := k) (src_rd 2 rfl) (pat_get sd) Try.underlying23 rfl rfl rfl) rfl rfl ?_
  refine T_ofall 3 rfl (pat_mem (L := Q) (j := k) sd) (fun hl_2 hm_3 => ?_)
  refine la rfl rfl rfl rfl rfl ?_
  refine L_nil ?_
  refine T_seq ?_
  refine T_regI ?_
  refine LI_opP hF rfl rfl (op_pr (pr_move rfl rfl) rfl rfl ?_)
  refine LI_opP hF rfl rfl (op_pr (pr_move rfl rfl) rfl rfl ?_)
  refine LI_op rfl (op_yield (k := k) () hy sd hsJ hsX 1 rfl [0] rfl rfl rfl rfl rfl rfl rfl rfl rfl (fun _ => trivial) (fun O4 R5 => ?_) (fun O6 R7 => ?_))
  ·
   refine LI_opP hF rfl rfl (op_pr (pr_un (v := .bool false) rfl rfl rfl) rfl rfl ?_)
   refine LI_nil ?_
   refine T_cond_f rfl ?_
   refine T_skip ?_
   refine T_reg hF rfl ?_
   refine lo rfl (pr_add (na_i64 (a := k) (b := 1) sd) rfl rfl rfl) rfl rfl ?_
   refine lm rfl rfl rfl rfl rfl ?_
   refine L_nil ?_
   exact T_again (k + 1, O4, R5) (by first | trivial | ((try dsimp only); first | omega | (refine ⟨?_, ?_⟩ <;> omega) | (refine ⟨?_, ?_, ?_⟩ <;> omega) | (simp; done) | (simp; omega))) (by first | trivial | ((try dsimp only); first | omega | (refine ⟨?_, ?_⟩ <;> omega) | (refine ⟨?_, ?_, ?_⟩ <;> omega) | (simp; done) | (simp; omega))) (sc rfl (sc rfl (sc rfl (sc rfl sn)))) [0, 2, 3, 4] ⟨by decide, rfl⟩
  ·
   refine LI_opP hF rfl rfl (op_pr (pr_un (v := .bool true) rfl rfl rfl) rfl rfl ?_)
   refine LI_nil ?_
   refine T_cond_t rfl ?_
   refine T_ret ?_
   exact T_finX rfl rfl 0 rfl
 ·
  have hc_1 := of_decide_eq_false hc_1
  refine T_exit rfl ?_
  obtain rfl : k = n := by omega
  exact T_finJ rfl rfl 0 rfl
set_option maxHeartbeats 4000000 in
theorem values_f (A : Option Addr) (n : Nat) (c : Nat) (w : World) (hO : HOK [] w)  : Calls Try.prog 105 [(.slice A n c)].toArray w (Ret (T := Nat) [] w (fun g1 => True) (fun g1 => (.func (.func 110) #[] [(.pointer (some ⟨g1, 0, none⟩))].toArray)) (fun g1 => [.old (some ⟨g1, 0, none⟩) 1 1 1 [(.slice A n c)]])) := by
 have hF : Wid Fence.wide := wid_wide
 refine enter (c := _) Try.func105 rfl [] _ [] (by rw [Try.ntmps105]; rfl) (own_rds hO rfl) ?_
 rw [Try.ntmps105]
 refine T_re [(0, (.slice A n c))] (sc rfl sn) ?_
 refine T_he [] [] ⟨by decide, rfl⟩ ?_
 refine Tsr hF rfl ?_
 refine L_op rfl (op_box (zs := [(.slice A n c)]) rfl rfl rfl rfl rfl (fun g1 => ?_))
 refine la rfl rfl rfl rfl rfl ?_
 refine L_nil ?_
 refine Tsr hF rfl ?_
 refine lo rfl (pr_mkfn (us := []) (vs := [(.pointer (some ⟨g1, 0, none⟩))]) rfl rfl rfl) rfl rfl ?_
 refine la rfl rfl rfl rfl rfl ?_
 refine L_nil ?_
 refine T_ret ?_
 refine T_oldb 0 (zs := [(.slice A n c)]) 0 1 1 1 rfl rfl rfl sd sd ?_
 exact T_fin g1 (by first | trivial | omega | (simp; done)) (res1 rfl rfl) [0] ⟨by decide, rfl⟩ rfl
set_option maxHeartbeats 4000000 in
theorem turned_f (k : List (BitVec 8)) (x : BitVec 8) (A : Option Addr) (n : Nat) (c : Nat) (w : World) (hO : HOK [.rd A 1 n c (k.map b8)] w) (hk : k.length = n) (hn : n ≤ 64) : Calls Try.prog 104 [(.slice A n c), (b8 x)].toArray w (Ret (T := Option Addr) [] w (fun B => True) (fun B => (.slice B 64 64)) (fun B => [.old B 1 64 64 ((hpad k x).map b8)])) := by
 have hpl := hpad_len k x
 have hF : Wid Fence.wide := wid_wide
 refine enter (c := _) Try.func104 rfl [] _ [.rd A 1 n c (k.map b8)] (by rw [Try.ntmps104]; rfl) (own_rds hO rfl) ?_
 rw [Try.ntmps104]
 refine T_re [(0, (.slice A n c)), (1, (b8 x))] (sc rfl (sc rfl sn)) ?_
 refine T_he [0] [.rd A 1 n c (k.map b8)] ⟨by decide, rfl⟩ ?_
 refine Tsr hF rfl ?_
 refine la rfl rfl rfl rfl rfl ?_
 refine L_nil ?_
 refine Tsr hF rfl ?_
 refine L_op rfl (op_make (z := (b8 (0#8))) (n := 64) (c := 64) Try.underlying23 (bytes := 1) kr rfl sd sd sd rfl rfl rfl rfl rfl (fun g1 => ?_))
 refine T_as 0 _ (.blk g1 5 ((List.replicate 64 0#8).map b8)) rfl (by rw [List.map_replicate]) ?_
 refine la rfl rfl rfl rfl rfl ?_
 refine L_nil ?_
 refine Tsr hF rfl ?_
 refine lm rfl rfl rfl rfl rfl ?_
 refine lm rfl rfl rfl rfl rfl ?_
 refine L_op rfl (op_copy (cs' := ((cop (List.replicate 64 0#8) 0 k (min n 64)).map b8)) 0 rfl Try.underlying23 kr (src_rd 1 rfl) (all8_one _) sd (cop_map _ _ _ _) rfl rfl rfl rfl rfl ?_)
 refine L_nil ?_
 refine T_seq ?_
 refine Tsr hF rfl ?_
 refine lm rfl rfl rfl rfl rfl ?_
 refine lo rfl (pr_len_sl Try.underlying23 rfl rfl) rfl rfl ?_
 refine lm rfl rfl rfl rfl rfl ?_
 refine L_nil ?_
 refine T_block ?_
 refine T_as 0 _ (.blk g1 5 ((htn k x 0).map b8)) rfl (by rw [htn_zero k x n _ hk hn (by omega)]) ?_
 refine T_loop (T := Nat) (fun i => i ≤ 64) (fun i => [(1, (b8 x)), (5, (.slice (some ⟨g1, 0, none⟩) 64 64)), (12, (.int .i64 ((64 : Nat) : Int))), (13, (.int .i64 ((i : Nat) : Int)))]) (fun i => [.blk g1 5 ((htn k x i).map b8), .rd A 1 n c (k.map b8)]) (fun i => 64 - i) 0 (by first | trivial | ((try dsimp only); first | omega | (refine ⟨?_, ?_⟩ <;> omega) | (refine ⟨?_, ?_, ?_⟩ <;> omega) | (simp; done) | (simp; omega))) (sc rfl (sc rfl (sc rfl (sc rfl sn)))) [0, 1] ⟨by decide, rfl⟩ ?_
 rintro i hp
 have hp : i ≤ 64 := hp
 have hhl := htn_len k x i
 refine T_re [(1, (b8 x)), (5, (.slice (some ⟨g1, 0, none⟩) 64 64)), (12, (.int .i64 ((64 : Nat) : Int))), (13, (.int .i64 ((i : Nat) : Int)))] (sc rfl (sc rfl (sc rfl (sc rfl sn)))) ?_
 refine T_he [0, 1] [.blk g1 5 ((htn k x i).map b8), .rd A 1 n c (k.map b8)] ⟨by decide, rfl⟩ ?_
 refine Tsr hF rfl ?_
 refine lo rfl (pr_cmp (bo := .lss) (nc_lt (a := i) (b := 64)) rfl rfl rfl rfl) rfl rfl ?_
 refine L_nil ?_
 refine T_seq ?_
 refine T_cond (decide (i < 64)) rfl (fun hc_2 => ?_) (fun hc_2 => ?_)
 ·
  have hc_2 := of_decide_eq_true hc_2
  refine T_skip ?_
  refine T_seq ?_
  refine T_block ?_
  refine Tsr hF rfl ?_
  refine lm rfl rfl rfl rfl rfl ?_
  refine la rfl rfl rfl rfl rfl ?_
  refine L_nil ?_
  refine T_reg hF rfl ?_
  refine lm rfl rfl rfl rfl rfl ?_
  refine lm rfl rfl rfl rfl rfl ?_
  refine lo rfl (pr_ixb (j := i) (m' := i) sd (by omega) Try.underlying23 (z := 1) kr rfl rfl rfl) rfl rfl ?_
  refine lq rfl (ld_blk 0 rfl (get8 sd) Try.underlying5 rfl rfl rfl) rfl rfl ?_
  refine lm rfl rfl rfl rfl rfl ?_
  refine lo rfl (pr_xor (ib_xor8 _ _) rfl rfl rfl) rfl rfl ?_
  refine lo rfl (pr_ixb (j := i) (m' := i) sd (by omega) Try.underlying23 (z := 1) kr rfl rfl rfl) rfl rfl ?_
  refine L_op rfl (op_store (vs := [(b8 ((ath (htn k x i) i) ^^^ x))]) (cs' := ((List.set (htn k x i) i ((ath (htn k x i) i) ^^^ x)).map b8)) 0 rfl rfl kr (one_one rfl) (stl sd) (splice_map (f := b8) sd) rfl rfl rfl rfl ?_)
  refine L_nil ?_
  refine T_reg hF rfl ?_
  refine lo rfl (pr_add (na_i64 (a := i) (b := 1) sd) rfl rfl rfl) rfl rfl ?_
  refine lm rfl rfl rfl rfl rfl ?_
  refine L_nil ?_
  refine T_as 0 _ (.blk g1 5 ((htn k x (i + 1)).map b8)) rfl (by rw [htn_set k x i (by omega)]) ?_
  exact T_again (i + 1) (by first | trivial | ((try dsimp only); first | omega | (refine ⟨?_, ?_⟩ <;> omega) | (refine ⟨?_, ?_, ?_⟩ <;> omega) | (simp; done) | (simp; omega))) (by first | trivial | ((try dsimp only); first | omega | (refine ⟨?_, ?_⟩ <;> omega) | (refine ⟨?_, ?_, ?_⟩ <;> omega) | (simp; done) | (simp; omega))) (sc rfl (sc rfl (sc rfl (sc rfl sn)))) [0, 1] ⟨by decide, rfl⟩
 ·
  have hc_2 := of_decide_eq_false hc_2
  refine T_exit rfl ?_
  obtain rfl : 64 = i := by omega
  refine Tsr hF rfl ?_
  refine lm rfl rfl rfl rfl rfl ?_
  refine la rfl rfl rfl rfl rfl ?_
  refine L_nil ?_
  refine T_ret ?_
  refine T_oldb 0 (zs := ((hpad k x).map b8)) 0 1 64 64 rfl sd (by rw [htn_all, List.drop_zero, List.take_of_length_le (by simp; omega)]) sd sd ?_
  exact T_fin (some ⟨g1, 0, none⟩) (by first | trivial | omega | (simp; done)) (res1 rfl rfl) [0] ⟨by decide, rfl⟩ rfl
theorem catp_app (L M : List Pt) : catp (L ++ M) = catp L ++ catp M := by simp [catp]

set_option maxHeartbeats 4000000 in
theorem tag_s_f (xs : List (BitVec 8)) (A : Option Addr) (n : Nat) (c : Nat) (Q : List Pt) (B : Option Addr) (nq : Nat) (d : Nat) (w : World) (hO : HOK [.rd A 1 n c (xs.map b8), .rd B 1 nq d (Q.map Pt.sl), .all Q] w) (hx : xs.length = n) (hn : n ≤ 64) (hQ : Q.length = nq) (hm : nq ≤ 100000000) (hs : (catp Q).length ≤ 900000000) : Calls Try.prog 97 [(.slice A n c), (.slice B nq d)].toArray w (Ret (T := Unit) [] w (fun _ => True) (fun _ => (.agg ((mactag xs (catp Q)).map b8).toArray)) (fun _ => [])) := by
 have hsl := shasum_len xs
 have hs1 := shasum_len (hpad xs 54#8 ++ catp Q)
 have hs2 := shasum_len (hpad xs 92#8 ++ (shasum (hpad xs 54#8 ++ catp Q)))
 have hp1 := hpad_len xs 54#8
 have hp2 := hpad_len xs 92#8
 have hml := mactag_len xs (catp Q)
 have hcl : (catp ([Pt.mk none 0 0 (hpad xs 54#8)] ++ Q)).length = 64 + (catp Q).length := by rw [catp_app, List.length_append, catp_cons, catp_nil, List.append_nil, hp1]
 have hF : Wid Fence.wide := wid_wide
 refine enter_m (c := _) Try.func97 rfl [] _ [.rd A 1 n c (xs.map b8), .rd B 1 nq d (Q.map Pt.sl), .all Q] (by rw [Try.ntmps97]; rfl) (own_rds hO rfl) ?_
 rw [Try.ntmps97]
 refine T_re [(0, (.slice A n c)), (1, (.slice B nq d))] (sc rfl (sc rfl sn)) ?_
 refine T_he [0, 1, 2] [.rd A 1 n c (xs.map b8), .rd B 1 nq d (Q.map Pt.sl), .all Q] ⟨by decide, rfl⟩ ?_
 refine Tsr hF rfl ?_
 refine L_op rfl (op_alloc (z := .agg ((List.replicate 32 0#8).map b8).toArray) (zs := ((List.replicate 32 0#8).map b8)) kr rfl rfl rfl rfl (fun g1 => ?_))
 refine L_nil ?_
 refine T_seq ?_
 refine Tsr hF rfl ?_
 refine lm rfl rfl rfl rfl rfl ?_
 refine lo rfl (pr_len_sl Try.underlying23 rfl rfl) rfl rfl ?_
 refine lo rfl (pr_cmp (bo := .gtr) (nc_lt (a := 64) (b := n)) rfl rfl rfl rfl) rfl rfl ?_
 refine L_nil ?_
 refine T_cond_no (t := decide (64 < n)) rfl (by simp; omega) ?_
 refine T_skip ?_
 refine Tsr hF rfl ?_
 refine lm rfl rfl rfl rfl rfl ?_
 refine L_op rfl (op_cn (fun w hw => turned_f xs (54#8) A n c w (hok_cons ((src_rd 1 rfl) w hw) (hok_nil w)) sd sd) (enters_of Try.func104 kr rfl) rfl rfl rfl rfl rfl (fun t2 q3 => ?_))
 obtain ⟨B4, eB4⟩ : ∃ x, x = t2 := ⟨_, rfl⟩
 subst eB4
 refine L_op rfl (op_bslice (e := 23) (zs := [(.slice B4 64 64)]) (qs := [(0, (.slice B4 64 64))]) (fun _ => by kernel_rfl) rfl rfl rfl rfl (fun g5 => ?_))
 refine L_op rfl (op_alloc (z := (.slice none 0 0)) (zs := [(.slice none 0 0)]) kr rfl rfl rfl rfl (fun g6 => ?_))
 refine L_op rfl (op_store (vs := [(.slice (some ⟨g5, 0, none⟩) 1 1)]) (cs' := [(.slice (some ⟨g5, 0, none⟩) 1 1)]) 0 rfl rfl kr (one_one rfl) (by first | decide | simp | exact Nat.le_refl _) rfl rfl rfl rfl rfl ?_)
 refine L_nil ?_
 refine T_seq ?_
 refine Tsr hF rfl ?_
 refine lm rfl rfl rfl rfl rfl ?_
 refine L_op rfl (op_cn (fun w hw => values_f B nq d w (hok_nil w) ) (enters_of Try.func105 kr rfl) rfl rfl rfl rfl rfl (fun t7 q8 => ?_))
 obtain ⟨g1_9, eg1_9⟩ : ∃ x, x = t7 := ⟨_, rfl⟩
 subst eg1_9
 refine L_nil ?_
 refine T_block ?_
 refine T_tord 0 rfl ?_
 refine T_tord 3 rfl ?_
 refine T_as 2 _ (.blk g6 127 [(.slice (some ⟨g5, 0, none⟩) (1 + 0) 1)]) rfl (by first | rfl | simp | (congr 1; simp)) ?_
 refine T_rowb 3 (zs := (([(Pt.mk B4 64 64 (hpad xs (54#8)))] ++ List.take 0 Q).map Pt.sl)) 1 (1 + 0) 1 rfl sd sd rfl (rfl) ?_
 refine T_range (Θ := Unit) (T := Option Addr × Nat) (Tx := Unit) (cap := [(.pointer (some ⟨g1_9, 0, none⟩))]) (ps := [21]) (values_seq Q B nq d g1_9 sd sd) rfl (enters_of Try.func110 kr rfl) (fun k ⟨A1, c1⟩ => k ≤ nq) (fun k ⟨A1, c1⟩ => [.rd B4 1 64 64 ((hpad xs (54#8)).map b8), .rd (some ⟨g1_9, 0, none⟩) 1 1 1 [(.slice B nq d)], .blk g6 127 [(.slice A1 (1 + k) c1)], .row (.slice A1 (1 + k) c1) 23 1 (1 + k) (([(Pt.mk B4 64 64 (hpad xs (54#8)))] ++ List.take k Q).map Pt.sl), .blk g1 50 ((List.replicate 32 0#8).map b8), .rd A 1 n c (xs.map b8), .rd B 1 nq d (Q.map Pt.sl), .all Q]) (fun _ => False) (fun _ => []) 0 (some ⟨g5, 0, none⟩, 1) (by first | trivial | ((try dsimp only); first | omega | (refine ⟨?_, ?_⟩ <;> omega) | (refine ⟨?_, ?_, ?_⟩ <;> omega) | (simp; done) | (simp; omega))) [2, 3, 1, 0, 4, 5, 6, 7] ⟨by decide, rfl⟩ [3, 6, 7] rfl rfl (fun _ _ => rfl) (fun _ => rfl) (fun _ _ => rfl) (fun _ _ => rfl) rfl (fun _ => trivial) ?_ ?_ ?_
 ·
  intro C2 w2 lo2 rs2 l D m k t th rc hrec hk hp
  obtain ⟨A1, c1⟩ := t
  have hp : k ≤ nq := hp
  have hk : k < nq := hk
  have hF : Wid (Fence.wide.inRound l) := wid_round l
  refine T_re [(6, (.pointer (some ⟨g6, 0, none⟩))), (21, (.slice ((pat Q k).A) ((pat Q k).n) ((pat Q k).c)))] (sc rfl (sc rfl sn)) ?_
  refine T_he [0, 1, 2, 3, 4, 5, 6, 7, 8, 9, 10] [.rd ((pat Q k).A) 1 ((pat Q k).n) ((pat Q k).c) (((pat Q k).xs).map b8), .obj l (.loop rc), .obj D (.deferred (some [])), .rd B4 1 64 64 ((hpad xs (54#8)).map b8), .rd (some ⟨g1_9, 0, none⟩) 1 1 1 [(.slice B nq d)], .blk g6 127 [(.slice A1 (1 + k) c1)], .row (.slice A1 (1 + k) c1) 23 1 (1 + k) (([(Pt.mk B4 64 64 (hpad xs (54#8)))] ++ List.take k Q).map Pt.sl), .blk g1 50 ((List.replicate 32 0#8).map b8), .rd A 1 n c (xs.map b8), .rd B 1 nq d (Q.map Pt.sl), .all Q] ⟨by decide, rfl⟩ ?_
  refine T_reg hF rfl ?_
  refine la rfl rfl rfl rfl rfl ?_
  refine L_nil ?_
  refine T_begun 1 rfl hrec ?_
  refine T_block ?_
  refine T_reg hF rfl ?_
  refine lq rfl (ld_blk 5 rfl rfl Try.underlying127 rfl rfl rfl) rfl rfl ?_
  refine lm rfl rfl rfl rfl rfl ?_
  refine L_op rfl (op_bslice (e := 23) (zs := [(.slice ((pat Q k).A) ((pat Q k).n) ((pat Q k).c))]) (qs := [(0, (.slice ((pat Q k).A) ((pat Q k).n) ((pat Q k).c)))]) (fun _ => by kernel_rfl) rfl rfl rfl rfl (fun g10 => ?_))
  refine L_op rfl (op_append (z := (.slice none 0 0)) (size := 1) (bytes := 24) 7 rfl Try.underlying127 kr kr (by decide) (src_full (z := 1) 0 rfl rfl sd sd) (by simp [Value.oneCell']) sd sd rfl rfl rfl rfl rfl (fun A11 C12 => ?_))
  refine T_as 0 _ (.row (.slice A11 (1 + k + 1) C12) 23 1 (1 + k + 1) ((([(Pt.mk B4 64 64 (hpad xs (54#8)))] ++ List.take k Q) ++ [(Pt.mk ((pat Q k).A) ((pat Q k).n) ((pat Q k).c) ((pat Q k).xs))]).map Pt.sl)) rfl (by first | rfl | (congr 1; simp; done) | (simp only [List.map_append]; rfl) | (rw [List.map_append]; rfl)) ?_
  refine L_op rfl (op_store (vs := [(.slice A11 (1 + k + 1) C12)]) (cs' := [(.slice A11 (1 + k + 1) C12)]) 7 rfl rfl kr (one_one rfl) (by first | decide | simp | exact Nat.le_refl _) rfl rfl rfl rfl rfl ?_)
  refine L_nil ?_
  refine T_as 0 _ (.blk g6 127 [(.slice A11 (1 + (k + 1)) C12)]) rfl (by rw [Nat.add_assoc]) ?_
  refine T_as 1 _ (.row (.slice A11 (1 + (k + 1)) C12) 23 1 (1 + (k + 1)) (([(Pt.mk B4 64 64 (hpad xs (54#8)))] ++ List.take (k + 1) Q).map Pt.sl)) rfl (by rw [List.take_add_one, pat_opt Q k (by omega)]; simp [Nat.add_assoc]) ?_
  exact T_on (A11, C12) (by omega) [3, 5, 6, 7, 1, 0, 8, 9, 10, 11] ⟨by decide, rfl⟩
 ·
  intro D t hp
  obtain ⟨A1, c1⟩ := t
  have hp : nq ≤ nq := hp
  refine T_re [(0, (.slice A n c)), (4, (.pointer (some ⟨g1, 0, none⟩))), (6, (.pointer (some ⟨g6, 0, none⟩)))] (sc rfl (sc rfl (sc rfl sn))) ?_
  refine T_he [0, 1, 2, 3, 4, 5, 6, 7, 8] [.obj D (.deferred (some [])), .rd B4 1 64 64 ((hpad xs (54#8)).map b8), .rd (some ⟨g1_9, 0, none⟩) 1 1 1 [(.slice B nq d)], .blk g6 127 [(.slice A1 (1 + nq) c1)], .row (.slice A1 (1 + nq) c1) 23 1 (1 + nq) (([(Pt.mk B4 64 64 (hpad xs (54#8)))] ++ List.take nq Q).map Pt.sl), .blk g1 50 ((List.replicate 32 0#8).map b8), .rd A 1 n c (xs.map b8), .rd B 1 nq d (Q.map Pt.sl), .all Q] ⟨by decide, rfl⟩ ?_
  refine T_as 4 _ (.row (.slice A1 (1 + nq) c1) 23 1 (1 + nq) (([(Pt.mk B4 64 64 (hpad xs (54#8)))] ++ Q).map Pt.sl)) rfl (by rw [List.take_of_length_le (Nat.le_of_eq hQ)]) ?_
  refine Tsr hF rfl ?_
  refine lq rfl (ld_blk 4 rfl rfl Try.underlying127 rfl rfl rfl) rfl rfl ?_
  refine L_op rfl (op_cn (fun w hw => sum_f ([(Pt.mk B4 64 64 (hpad xs (54#8)))] ++ Q) A1 (1 + nq) c1 w (hok_cons ((src_row 0 rfl) w hw) (hok_cons (all_app (all_cons ((src_rd 2 rfl) w hw) (all_nil w)) (hw _ (List.mem_of_getElem? (i := 8) rfl))) (hok_nil w))) sd (by first | assumption | omega | (simp [catp_cons, catp_nil]; done) | (simp [catp_cons, catp_nil]; omega)) sd) (enters_of Try.func103 kr rfl) rfl rfl rfl rfl rfl (fun t13 q14 => ?_))
  refine T_slot 27 _ (.agg ((shasum (hpad xs 54#8 ++ catp Q)).map b8).toArray) rfl (by rw [catp_app, catp_cons, catp_nil, List.append_nil]) ?_
  refine L_op rfl (op_alloc (z := .agg ((List.replicate 32 0#8).map b8).toArray) (zs := ((List.replicate 32 0#8).map b8)) kr rfl rfl rfl rfl (fun g15 => ?_))
  refine L_op rfl (op_sto (n := 32) (vs := ((shasum (hpad xs 54#8 ++ catp Q)).map b8)) 0 rfl rfl kr (all8_one _) kr sd rfl rfl rfl rfl ?_)
  refine L_nil ?_
  refine T_seq ?_
  refine T_regD [.blk g15 50 ((shasum (hpad xs 54#8 ++ catp Q)).map b8), .row (.slice A1 (1 + nq) c1) 23 1 (1 + nq) (([(Pt.mk B4 64 64 (hpad xs (54#8)))] ++ Q).map Pt.sl), .obj D (.deferred (some [])), .rd B4 1 64 64 ((hpad xs (54#8)).map b8), .rd (some ⟨g1_9, 0, none⟩) 1 1 1 [(.slice B nq d)], .blk g6 127 [(.slice A1 (1 + nq) c1)], .blk g1 50 ((List.replicate 32 0#8).map b8), .rd A 1 n c (xs.map b8), .rd B 1 nq d (Q.map Pt.sl), .all Q] 5 6 #[false, false, false, false, false, false] hF kr kr ?_
  refine D_pure (i := 0) [0, 1, 2, 3, 4, 5, 6, 7, 8, 9] rfl kr rfl (pr_move rfl rfl) (.inr rfl) rfl rfl ?_
  refine D_pure (i := 2) [0, 1, 2, 3, 4, 5, 6, 7, 8, 9] rfl kr rfl (pr_sla (l := 0) (u := 32) (m := 0) sd sd sd rfl Try.underlying50 (z := 1) kr rfl rfl rfl rfl) (.inr rfl) rfl rfl ?_
  refine D_one 1 _ rfl kr rfl (op_cn (fun w hw => turned_f xs (92#8) A n c w (hok_cons ((src_rd 7 rfl) w hw) (hok_nil w)) sd sd) (enters_of Try.func104 kr rfl) rfl rfl rfl rfl rfl (fun t16 q17 => ?_))
  obtain ⟨B18, eB18⟩ : ∃ x, x = t16 := ⟨_, rfl⟩
  subst eB18
  refine D_on [1, 2, 3, 4, 5, 6, 7, 8, 9, 10] rfl ?_
  refine D_one 3 _ rfl kr rfl (op_bslice (e := 23) (zs := [(.slice B18 64 64), (.slice (some ⟨g15, 0, none⟩) 32 32)]) (qs := [(0, (.slice B18 64 64)), (1, (.slice (some ⟨g15, 0, none⟩) 32 32))]) (fun _ => by kernel_rfl) rfl rfl rfl rfl (fun g19 => ?_))
  refine D_on [2, 3, 4, 5, 6, 7, 8, 9, 10, 11] rfl ?_
  refine D_one 4 _ rfl kr rfl (op_cn (fun w hw => sum_f [(Pt.mk B18 64 64 (hpad xs (92#8))), (Pt.mk (some ⟨g15, 0, none⟩) 32 32 (shasum (hpad xs 54#8 ++ catp Q)))] (some ⟨g19, 0, none⟩) 2 2 w (hok_cons ((src_full (z := 1) 0 rfl rfl sd sd) w hw) (hok_cons (all_cons ((src_old 1 rfl) w hw) (all_cons ((src_full (z := 1) 2 rfl sd sd sd) w hw) (all_nil w))) (hok_nil w))) sd (by first | assumption | omega | (simp [catp_cons, catp_nil]; done) | (simp [catp_cons, catp_nil]; omega)) sd) (enters_of Try.func103 kr rfl) rfl rfl rfl rfl rfl (fun t20 q21 => ?_))
  refine T_slot 32 _ (.agg ((shasum (hpad xs 92#8 ++ (shasum (hpad xs 54#8 ++ catp Q)))).map b8).toArray) rfl (by rw [catp_cons, catp_cons, catp_nil, List.append_nil]) ?_
  refine D_on [2, 3, 4, 5, 6, 7, 8, 9, 10, 11] rfl ?_
  refine D_one 5 _ rfl kr rfl (op_sto (n := 32) (vs := ((shasum (hpad xs 92#8 ++ (shasum (hpad xs 54#8 ++ catp Q)))).map b8)) 8 rfl rfl kr (all8_one _) kr sd rfl rfl rfl rfl ?_)
  refine D_past kr ?_
  refine D_done kr ?_
  refine T_ret ?_
  refine T_as 0 _ (.blk g1 50 ((mactag xs (catp Q)).map b8)) rfl (by rw [mactag_short xs (catp Q) (by omega)]) ?_
  exact T_finM 5 rfl () (by first | trivial | omega | (simp; done)) (resb 0 rfl rfl rfl Try.underlying50 rfl (fwz (n := 32) kr sd)) [] ⟨by decide, rfl⟩ rfl
 ·
  exact fun D t hq => hq.elim
set_option maxHeartbeats 4000000 in
theorem tag_l_f (xs : List (BitVec 8)) (A : Option Addr) (n : Nat) (c : Nat) (Q : List Pt) (B : Option Addr) (nq : Nat) (d : Nat) (w : World) (hO : HOK [.rd A 1 n c (xs.map b8), .rd B 1 nq d (Q.map Pt.sl), .all Q] w) (hx : xs.length = n) (hn : 64 < n ∧ n ≤ 900000000) (hQ : Q.length = nq) (hm : nq ≤ 100000000) (hs : (catp Q).length ≤ 900000000) : Calls Try.prog 97 [(.slice A n c), (.slice B nq d)].toArray w (Ret (T := Unit) [] w (fun _ => True) (fun _ => (.agg ((mactag xs (catp Q)).map b8).toArray)) (fun _ => [])) := by
 have hsl := shasum_len xs
 have hs1 := shasum_len (hpad (shasum xs) 54#8 ++ catp Q)
 have hs2 := shasum_len (hpad (shasum xs) 92#8 ++ (shasum (hpad (shasum xs) 54#8 ++ catp Q)))
 have hp1 := hpad_len (shasum xs) 54#8
 have hp2 := hpad_len (shasum xs) 92#8
 have hml := mactag_len xs (catp Q)
 have hcl : (catp ([Pt.mk none 0 0 (hpad (shasum xs) 54#8)] ++ Q)).length = 64 + (catp Q).length := by rw [catp_app, List.length_append, catp_cons, catp_nil, List.append_nil, hp1]
 have hF : Wid Fence.wide := wid_wide
 refine enter_m (c := _) Try.func97 rfl [] _ [.rd A 1 n c (xs.map b8), .rd B 1 nq d (Q.map Pt.sl), .all Q] (by rw [Try.ntmps97]; rfl) (own_rds hO rfl) ?_
 rw [Try.ntmps97]
 refine T_re [(0, (.slice A n c)), (1, (.slice B nq d))] (sc rfl (sc rfl sn)) ?_
 refine T_he [0, 1, 2] [.rd A 1 n c (xs.map b8), .rd B 1 nq d (Q.map Pt.sl), .all Q] ⟨by decide, rfl⟩ ?_
 refine Tsr hF rfl ?_
 refine L_op rfl (op_alloc (z := .agg ((List.replicate 32 0#8).map b8).toArray) (zs := ((List.replicate 32 0#8).map b8)) kr rfl rfl rfl rfl (fun g1 => ?_))
 refine L_nil ?_
 refine T_seq ?_
 refine Tsr hF rfl ?_
 refine lm rfl rfl rfl rfl rfl ?_
 refine lo rfl (pr_len_sl Try.underlying23 rfl rfl) rfl rfl ?_
 refine lo rfl (pr_cmp (bo := .gtr) (nc_lt (a := 64) (b := n)) rfl rfl rfl rfl) rfl rfl ?_
 refine L_nil ?_
 refine T_cond_yes (t := decide (64 < n)) rfl (by simp; omega) ?_
 refine Tsr hF rfl ?_
 refine lm rfl rfl rfl rfl rfl ?_
 refine L_op rfl (op_bslice (e := 23) (zs := [(.slice A n c)]) (qs := [(0, (.slice A n c))]) (fun _ => by kernel_rfl) rfl rfl rfl rfl (fun g2 => ?_))
 refine L_op rfl (op_cn (fun w hw => sum_f [(Pt.mk A n c xs)] (some ⟨g2, 0, none⟩) 1 1 w (hok_cons ((src_full (z := 1) 0 rfl rfl sd sd) w hw) (hok_cons (all_cons ((src_rd 2 rfl) w hw) (all_nil w)) (hok_nil w))) sd (by first | assumption | omega | (simp [catp_cons, catp_nil]; done) | (simp [catp_cons, catp_nil]; omega)) sd) (enters_of Try.func103 kr rfl) rfl rfl rfl rfl rfl (fun t3 q4 => ?_))
 refine T_slot 14 (.agg ((shasum (catp [(Pt.mk A n c xs)])).map b8).toArray) (.agg ((shasum xs).map b8).toArray) rfl (by rw [catp_cons, catp_nil, List.append_nil]) ?_
 refine L_op rfl (op_alloc (z := .agg ((List.replicate 32 0#8).map b8).toArray) (zs := ((List.replicate 32 0#8).map b8)) kr rfl rfl rfl rfl (fun g5 => ?_))
 refine L_op rfl (op_sto (n := 32) (vs := ((shasum xs).map b8)) 0 rfl rfl kr (all8_one _) kr sd rfl rfl rfl rfl ?_)
 refine L_nil ?_
 refine T_reg hF rfl ?_
 refine lo rfl (pr_sla (l := 0) (u := 32) (m := 0) sd sd sd rfl Try.underlying50 (z := 1) kr rfl rfl rfl rfl) rfl rfl ?_
 refine la rfl rfl rfl rfl rfl ?_
 refine L_nil ?_
 refine Tsr hF rfl ?_
 refine lm rfl rfl rfl rfl rfl ?_
 refine L_op rfl (op_cn (fun w hw => turned_f (shasum xs) (54#8) (some ⟨g5, 0, none⟩) 32 32 w (hok_cons ((src_full (z := 1) 0 rfl sd sd sd) w hw) (hok_nil w)) sd sd) (enters_of Try.func104 kr rfl) rfl rfl rfl rfl rfl (fun t6 q7 => ?_))
 obtain ⟨B8, eB8⟩ : ∃ x, x = t6 := ⟨_, rfl⟩
 subst eB8
 refine L_op rfl (op_bslice (e := 23) (zs := [(.slice B8 64 64)]) (qs := [(0, (.slice B8 64 64))]) (fun _ => by kernel_rfl) rfl rfl rfl rfl (fun g9 => ?_))
 refine L_op rfl (op_alloc (z := (.slice none 0 0)) (zs := [(.slice none 0 0)]) kr rfl rfl rfl rfl (fun g10 => ?_))
 refine L_op rfl (op_store (vs := [(.slice (some ⟨g9, 0, none⟩) 1 1)]) (cs' := [(.slice (some ⟨g9, 0, none⟩) 1 1)]) 0 rfl rfl kr (one_one rfl) (by first | decide | simp | exact Nat.le_refl _) rfl rfl rfl rfl rfl ?_)
 refine L_nil ?_
 refine T_seq ?_
 refine Tsr hF rfl ?_
 refine lm rfl rfl rfl rfl rfl ?_
 refine L_op rfl (op_cn (fun w hw => values_f B nq d w (hok_nil w) ) (enters_of Try.func105 kr rfl) rfl rfl rfl rfl rfl (fun t11 q12 => ?_))
 obtain ⟨g1_13, eg1_13⟩ : ∃ x, x = t11 := ⟨_, rfl⟩
 subst eg1_13
 refine L_nil ?_
 refine T_block ?_
 refine T_tord 0 rfl ?_
 refine T_tord 3 rfl ?_
 refine T_as 2 _ (.blk g10 127 [(.slice (some ⟨g9, 0, none⟩) (1 + 0) 1)]) rfl (by first | rfl | simp | (congr 1; simp)) ?_
 refine T_rowb 3 (zs := (([(Pt.mk B8 64 64 (hpad (shasum xs) (54#8)))] ++ List.take 0 Q).map Pt.sl)) 1 (1 + 0) 1 rfl sd sd rfl (rfl) ?_
 refine T_range (Θ := Unit) (T := Option Addr × Nat) (Tx := Unit) (cap := [(.pointer (some ⟨g1_13, 0, none⟩))]) (ps := [21]) (values_seq Q B nq d g1_13 sd sd) rfl (enters_of Try.func110 kr rfl) (fun k ⟨A1, c1⟩ => k ≤ nq) (fun k ⟨A1, c1⟩ => [.rd B8 1 64 64 ((hpad (shasum xs) (54#8)).map b8), .rd (some ⟨g1_13, 0, none⟩) 1 1 1 [(.slice B nq d)], .blk g10 127 [(.slice A1 (1 + k) c1)], .row (.slice A1 (1 + k) c1) 23 1 (1 + k) (([(Pt.mk B8 64 64 (hpad (shasum xs) (54#8)))] ++ List.take k Q).map Pt.sl), .blk g5 50 ((shasum xs).map b8), .blk g2 23 [(.slice A n c)], .blk g1 50 ((List.replicate 32 0#8).map b8), .rd A 1 n c (xs.map b8), .rd B 1 nq d (Q.map Pt.sl), .all Q]) (fun _ => False) (fun _ => []) 0 (some ⟨g9, 0, none⟩, 1) (by first | trivial | ((try dsimp only); first | omega | (refine ⟨?_, ?_⟩ <;> omega) | (refine ⟨?_, ?_, ?_⟩ <;> omega) | (simp; done) | (simp; omega))) [2, 3, 1, 0, 4, 5, 6, 7, 8, 9] ⟨by decide, rfl⟩ [3, 8, 9] rfl rfl (fun _ _ => rfl) (fun _ => rfl) (fun _ _ => rfl) (fun _ _ => rfl) rfl (fun _ => trivial) ?_ ?_ ?_
 ·
  intro C2 w2 lo2 rs2 l D m k t th rc hrec hk hp
  obtain ⟨A1, c1⟩ := t
  have hp : k ≤ nq := hp
  have hk : k < nq := hk
  have hF : Wid (Fence.wide.inRound l) := wid_round l
  refine T_re [(6, (.pointer (some ⟨g10, 0, none⟩))), (21, (.slice ((pat Q k).A) ((pat Q k).n) ((pat Q k).c)))] (sc rfl (sc rfl sn)) ?_
  refine T_he [0, 1, 2, 3, 4, 5, 6, 7, 8, 9, 10, 11, 12] [.rd ((pat Q k).A) 1 ((pat Q k).n) ((pat Q k).c) (((pat Q k).xs).map b8), .obj l (.loop rc), .obj D (.deferred (some [])), .rd B8 1 64 64 ((hpad (shasum xs) (54#8)).map b8), .rd (some ⟨g1_13, 0, none⟩) 1 1 1 [(.slice B nq d)], .blk g10 127 [(.slice A1 (1 + k) c1)], .row (.slice A1 (1 + k) c1) 23 1 (1 + k) (([(Pt.mk B8 64 64 (hpad (shasum xs) (54#8)))] ++ List.take k Q).map Pt.sl), .blk g5 50 ((shasum xs).map b8), .blk g2 23 [(.slice A n c)], .blk g1 50 ((List.replicate 32 0#8).map b8), .rd A 1 n c (xs.map b8), .rd B 1 nq d (Q.map Pt.sl), .all Q] ⟨by decide, rfl⟩ ?_
  refine T_reg hF rfl ?_
  refine la rfl rfl rfl rfl rfl ?_
  refine L_nil ?_
  refine T_begun 1 rfl hrec ?_
  refine T_block ?_
  refine T_reg hF rfl ?_
  refine lq rfl (ld_blk 5 rfl rfl Try.underlying127 rfl rfl rfl) rfl rfl ?_
  refine lm rfl rfl rfl rfl rfl ?_
  refine L_op rfl (op_bslice (e := 23) (zs := [(.slice ((pat Q k).A) ((pat Q k).n) ((pat Q k).c))]) (qs := [(0, (.slice ((pat Q k).A) ((pat Q k).n) ((pat Q k).c)))]) (fun _ => by kernel_rfl) rfl rfl rfl rfl (fun g14 => ?_))
  refine L_op rfl (op_append (z := (.slice none 0 0)) (size := 1) (bytes := 24) 7 rfl Try.underlying127 kr kr (by decide) (src_full (z := 1) 0 rfl rfl sd sd) (by simp [Value.oneCell']) sd sd rfl rfl rfl rfl rfl (fun A15 C16 => ?_))
  refine T_as 0 _ (.row (.slice A15 (1 + k + 1) C16) 23 1 (1 + k + 1) ((([(Pt.mk B8 64 64 (hpad (shasum xs) (54#8)))] ++ List.take k Q) ++ [(Pt.mk ((pat Q k).A) ((pat Q k).n) ((pat Q k).c) ((pat Q k).xs))]).map Pt.sl)) rfl (by first | rfl | (congr 1; simp; done) | (simp only [List.map_append]; rfl) | (rw [List.map_append]; rfl)) ?_
  refine L_op rfl (op_store (vs := [(.slice A15 (1 + k + 1) C16)]) (cs' := [(.slice A15 (1 + k + 1) C16)]) 7 rfl rfl kr (one_one rfl) (by first | decide | simp | exact Nat.le_refl _) rfl rfl rfl rfl rfl ?_)
  refine L_nil ?_
  refine T_as 0 _ (.blk g10 127 [(.slice A15 (1 + (k + 1)) C16)]) rfl (by rw [Nat.add_assoc]) ?_
  refine T_as 1 _ (.row (.slice A15 (1 + (k + 1)) C16) 23 1 (1 + (k + 1)) (([(Pt.mk B8 64 64 (hpad (shasum xs) (54#8)))] ++ List.take (k + 1) Q).map Pt.sl)) rfl (by rw [List.take_add_one, pat_opt Q k (by omega)]; simp [Nat.add_assoc]) ?_
  exact T_on (A15, C16) (by omega) [3, 5, 6, 7, 1, 0, 8, 9, 10, 11, 12, 13] ⟨by decide, rfl⟩
 ·
  intro D t hp
  obtain ⟨A1, c1⟩ := t
  have hp : nq ≤ nq := hp
  refine T_re [(0, (.slice (some ⟨g5, 0, none⟩) 32 32)), (4, (.pointer (some ⟨g1, 0, none⟩))), (6, (.pointer (some ⟨g10, 0, none⟩)))] (sc rfl (sc rfl (sc rfl sn))) ?_
  refine T_he [0, 1, 2, 3, 4, 5, 6, 7, 8, 9, 10] [.obj D (.deferred (some [])), .rd B8 1 64 64 ((hpad (shasum xs) (54#8)).map b8), .rd (some ⟨g1_13, 0, none⟩) 1 1 1 [(.slice B nq d)], .blk g10 127 [(.slice A1 (1 + nq) c1)], .row (.slice A1 (1 + nq) c1) 23 1 (1 + nq) (([(Pt.mk B8 64 64 (hpad (shasum xs) (54#8)))] ++ List.take nq Q).map Pt.sl), .blk g5 50 ((shasum xs).map b8), .blk g2 23 [(.slice A n c)], .blk g1 50 ((List.replicate 32 0#8).map b8), .rd A 1 n c (xs.map b8), .rd B 1 nq d (Q.map Pt.sl), .all Q] ⟨by decide, rfl⟩ ?_
  refine T_as 4 _ (.row (.slice A1 (1 + nq) c1) 23 1 (1 + nq) (([(Pt.mk B8 64 64 (hpad (shasum xs) (54#8)))] ++ Q).map Pt.sl)) rfl (by rw [List.take_of_length_le (Nat.le_of_eq hQ)]) ?_
  refine Tsr hF rfl ?_
  refine lq rfl (ld_blk 4 rfl rfl Try.underlying127 rfl rfl rfl) rfl rfl ?_
  refine L_op rfl (op_cn (fun w hw => sum_f ([(Pt.mk B8 64 64 (hpad (shasum xs) (54#8)))] ++ Q) A1 (1 + nq) c1 w (hok_cons ((src_row 0 rfl) w hw) (hok_cons (all_app (all_cons ((src_rd 2 rfl) w hw) (all_nil w)) (hw _ (List.mem_of_getElem? (i := 10) rfl))) (hok_nil w))) sd (by first | assumption | omega | (simp [catp_cons, catp_nil]; done) | (simp [catp_cons, catp_nil]; omega)) sd) (enters_of Try.func103 kr rfl) rfl rfl rfl rfl rfl (fun t17 q18 => ?_))
  refine T_slot 27 _ (.agg ((shasum (hpad (shasum xs) 54#8 ++ catp Q)).map b8).toArray) rfl (by rw [catp_app, catp_cons, catp_nil, List.append_nil]) ?_
  refine L_op rfl (op_alloc (z := .agg ((List.replicate 32 0#8).map b8).toArray) (zs := ((List.replicate 32 0#8).map b8)) kr rfl rfl rfl rfl (fun g19 => ?_))
  refine L_op rfl (op_sto (n := 32) (vs := ((shasum (hpad (shasum xs) 54#8 ++ catp Q)).map b8)) 0 rfl rfl kr (all8_one _) kr sd rfl rfl rfl rfl ?_)
  refine L_nil ?_
  refine T_seq ?_
  refine T_regD [.blk g19 50 ((shasum (hpad (shasum xs) 54#8 ++ catp Q)).map b8), .row (.slice A1 (1 + nq) c1) 23 1 (1 + nq) (([(Pt.mk B8 64 64 (hpad (shasum xs) (54#8)))] ++ Q).map Pt.sl), .obj D (.deferred (some [])), .rd B8 1 64 64 ((hpad (shasum xs) (54#8)).map b8), .rd (some ⟨g1_13, 0, none⟩) 1 1 1 [(.slice B nq d)], .blk g10 127 [(.slice A1 (1 + nq) c1)], .blk g5 50 ((shasum xs).map b8), .blk g2 23 [(.slice A n c)], .blk g1 50 ((List.replicate 32 0#8).map b8), .rd A 1 n c (xs.map b8), .rd B 1 nq d (Q.map Pt.sl), .all Q] 5 6 #[false, false, false, false, false, false] hF kr kr ?_
  refine D_pure (i := 0) [0, 1, 2, 3, 4, 5, 6, 7, 8, 9, 10, 11] rfl kr rfl (pr_move rfl rfl) (.inr rfl) rfl rfl ?_
  refine D_pure (i := 2) [0, 1, 2, 3, 4, 5, 6, 7, 8, 9, 10, 11] rfl kr rfl (pr_sla (l := 0) (u := 32) (m := 0) sd sd sd rfl Try.underlying50 (z := 1) kr rfl rfl rfl rfl) (.inr rfl) rfl rfl ?_
  refine D_one 1 _ rfl kr rfl (op_cn (fun w hw => turned_f (shasum xs) (92#8) (some ⟨g5, 0, none⟩) 32 32 w (hok_cons ((src_full (z := 1) 6 rfl sd sd sd) w hw) (hok_nil w)) sd sd) (enters_of Try.func104 kr rfl) rfl rfl rfl rfl rfl (fun t20 q21 => ?_))
  obtain ⟨B22, eB22⟩ : ∃ x, x = t20 := ⟨_, rfl⟩
  subst eB22
  refine D_on [1, 2, 3, 4, 5, 6, 7, 8, 9, 10, 11, 12] rfl ?_
  refine D_one 3 _ rfl kr rfl (op_bslice (e := 23) (zs := [(.slice B22 64 64), (.slice (some ⟨g19, 0, none⟩) 32 32)]) (qs := [(0, (.slice B22 64 64)), (1, (.slice (some ⟨g19, 0, none⟩) 32 32))]) (fun _ => by kernel_rfl) rfl rfl rfl rfl (fun g23 => ?_))
  refine D_on [2, 3, 4, 5, 6, 7, 8, 9, 10, 11, 12, 13] rfl ?_
  refine D_one 4 _ rfl kr rfl (op_cn (fun w hw => sum_f [(Pt.mk B22 64 64 (hpad (shasum xs) (92#8))), (Pt.mk (some ⟨g19, 0, none⟩) 32 32 (shasum (hpad (shasum xs) 54#8 ++ catp Q)))] (some ⟨g23, 0, none⟩) 2 2 w (hok_cons ((src_full (z := 1) 0 rfl rfl sd sd) w hw) (hok_cons (all_cons ((src_old 1 rfl) w hw) (all_cons ((src_full (z := 1) 2 rfl sd sd sd) w hw) (all_nil w))) (hok_nil w))) sd (by first | assumption | omega | (simp [catp_cons, catp_nil]; done) | (simp [catp_cons, catp_nil]; omega)) sd) (enters_of Try.func103 kr rfl) rfl rfl rfl rfl rfl (fun t24 q25 => ?_))
  refine T_slot 32 _ (.agg ((shasum (hpad (shasum xs) 92#8 ++ (shasum (hpad (shasum xs) 54#8 ++ catp Q)))).map b8).toArray) rfl (by rw [catp_cons, catp_cons, catp_nil, List.append_nil]) ?_
  refine D_on [2, 3, 4, 5, 6, 7, 8, 9, 10, 11, 12, 13] rfl ?_
  refine D_one 5 _ rfl kr rfl (op_sto (n := 32) (vs := ((shasum (hpad (shasum xs) 92#8 ++ (shasum (hpad (shasum xs) 54#8 ++ catp Q)))).map b8)) 10 rfl rfl kr (all8_one _) kr sd rfl rfl rfl rfl ?_)
  refine D_past kr ?_
  refine D_done kr ?_
  refine T_ret ?_
  refine T_as 0 _ (.blk g1 50 ((mactag xs (catp Q)).map b8)) rfl (by rw [mactag_long xs (catp Q) (by omega)]) ?_
  exact T_finM 5 rfl () (by first | trivial | omega | (simp; done)) (resb 0 rfl rfl rfl Try.underlying50 rfl (fwz (n := 32) kr sd)) [] ⟨by decide, rfl⟩ rfl
 ·
  exact fun D t hq => hq.elim
theorem tag_f (xs : List (BitVec 8)) (A : Option Addr) (n : Nat) (c : Nat) (Q : List Pt) (B : Option Addr) (nq : Nat) (d : Nat) (w : World) (hO : HOK [.rd A 1 n c (xs.map b8), .rd B 1 nq d (Q.map Pt.sl), .all Q] w) (hx : xs.length = n) (hn : n ≤ 900000000) (hQ : Q.length = nq) (hm : nq ≤ 100000000) (hs : (catp Q).length ≤ 900000000) : Calls Try.prog 97 [(.slice A n c), (.slice B nq d)].toArray w (Ret (T := Unit) [] w (fun _ => True) (fun _ => (.agg ((mactag xs (catp Q)).map b8).toArray)) (fun _ => [])) := by
  by_cases h : n ≤ 64
  · exact tag_s_f xs A n c Q B nq d w hO hx h hQ hm hs
  · exact tag_l_f xs A n c Q B nq d w hO hx ⟨by omega, hn⟩ hQ hm hs

end Go.Proofs.Ytlplpmkdebemnaa
namespace Go.Proofs.Ytlplpmkdebemnaa
set_option linter.unusedVariables false
set_option linter.unusedSimpArgs false
open Bv Fw
/-- The k-th piece (the 0-th is empty). -/
def hkpc (key info : List (BitVec 8)) : Nat → List (BitVec 8)
  | 0 => []
  | k + 1 => mactag key (hkpc key info k ++ info ++ [BitVec.ofNat 8 (k + 1)])
/-- The first k pieces. -/
def hkout (key info : List (BitVec 8)) : Nat → List (BitVec 8)
  | 0 => []
  | k + 1 => hkout key info k ++ hkpc key info (k + 1)
theorem hkpc_zero (key info : List (BitVec 8)) : hkpc key info 0 = [] := rfl
theorem hkpc_succ (key info : List (BitVec 8)) (k : Nat) : hkpc key info (k + 1) = mactag key (hkpc key info k ++ info ++ [BitVec.ofNat 8 (k + 1)]) := rfl
theorem hkout_zero (key info : List (BitVec 8)) : hkout key info 0 = [] := rfl
theorem hkout_succ (key info : List (BitVec 8)) (k : Nat) : hkout key info (k + 1) = hkout key info k ++ hkpc key info (k + 1) := rfl
theorem hkpc_len (key info : List (BitVec 8)) (k : Nat) : (hkpc key info (k + 1)).length = 32 := mactag_len _ _
theorem hkpc_le (key info : List (BitVec 8)) : ∀ k, (hkpc key info k).length ≤ 32
  | 0 => Nat.zero_le _
  | k + 1 => Nat.le_of_eq (hkpc_len key info k)
theorem hkout_len (key info : List (BitVec 8)) : ∀ k, (hkout key info k).length = 32 * k
  | 0 => rfl
  | k + 1 => by rw [hkout, List.length_append, hkout_len key info k, hkpc_len]; omega
/-- More pieces begin alike. -/
theorem hkout_take (key info : List (BitVec 8)) (k : Nat) : ∀ j, (hkout key info (k + j)).take (32 * k) = hkout key info k
  | 0 => List.take_of_length_le (by rw [hkout_len]; omega)
  | j + 1 => by
    rw [show k + (j + 1) = (k + j) + 1 by omega, hkout, List.take_append_of_le_length (by rw [hkout_len]; omega), hkout_take key info k j]
/-- The first n bytes, out of as many pieces as are needed, or more. -/
def hkdf (key info : List (BitVec 8)) (n : Nat) : List (BitVec 8) := (hkout key info 255).take n
theorem hkdf_of (key info : List (BitVec 8)) (n k : Nat) (h : n ≤ 32 * k) (hk : k ≤ 255) : (hkout key info k).take n = hkdf key info n := by
  unfold hkdf
  have := hkout_take key info k (255 - k)
  rw [show k + (255 - k) = 255 by omega] at this
  rw [← this, List.take_take, Nat.min_eq_left h]
theorem hkdf_len (key info : List (BitVec 8)) (n : Nat) (h : n ≤ 8160) : (hkdf key info n).length = n := by
  unfold hkdf; rw [List.length_take, hkout_len]; omega
theorem hkdf_take (key info : List (BitVec 8)) (n m : Nat) (h : m ≤ n) : (hkdf key info n).take m = hkdf key info m := by
  unfold hkdf; rw [List.take_take, Nat.min_eq_left h]
theorem hkdf_piece (key info : List (BitVec 8)) (n k : Nat) (h : 32 * (k + 1) ≤ n) (hk : k < 255) : ((hkdf key info n).drop (32 * k)).take 32 = hkpc key info (k + 1) := by
  have e : (hkdf key info n).take (32 * (k + 1)) = hkout key info (k + 1) := by
    rw [hkdf_take _ _ _ _ h, ← hkdf_of key info (32 * (k + 1)) (k + 1) (Nat.le_refl _) (by omega), List.take_of_length_le (by rw [hkout_len]; omega)]
  have e2 : ((hkdf key info n).drop (32 * k)).take 32 = ((hkdf key info n).take (32 * (k + 1))).drop (32 * k) := by
    rw [List.drop_take]; congr 1; omega
  rw [e2, e, hkout, List.drop_append_of_le_length (by rw [hkout_len]; omega), List.drop_of_length_le (by rw [hkout_len]; omega), List.nil_append]
attribute [irreducible] hkpc hkout hkdf
end Go.Proofs.Ytlplpmkdebemnaa
namespace Go.Proofs.Ytlplpmkdebemnaa
set_option linter.unusedVariables false
set_option linter.unusedSimpArgs false
set_option linter.unnecessarySimpa false
set_option maxRecDepth 100000
open Go.RowKit Bv Fw

set_option maxHeartbeats 4000000 in
theorem pieces_seq (key : List (BitVec 8)) (info : List (BitVec 8)) (A : Option Addr) (n : Nat) (c : Nat) (g1 : Nat) (g2 : Nat) (hkl : key.length = 32) (hi : info.length = n) (hn : n ≤ 100000000) : SeqC (Θ := Option Addr) Try.prog 102 [(.pointer (some ⟨g1, 0, none⟩)), (.pointer (some ⟨g2, 0, none⟩))] [.rd (some ⟨g1, 0, none⟩) 1 32 32 (key.map b8), .rd (some ⟨g2, 0, none⟩) 1 1 1 [(.slice A n c)], .rd A 1 n c (info.map b8)] 255 (fun k B => [(.slice B 32 32)]) (fun k B => [.rd B 1 32 32 ((hkpc key info (k + 1)).map b8)]) := by
 have hF : Wid Fence.wide := wid_wide
 refine enter_seq (c := _) Try.func102 rfl (by rw [Try.ntmps102]; rfl) rfl ?_
 intro l J Jx W O R hsJ hsX hy hend
 rw [Try.ntmps102]
 refine T_re [(0, (.func (.yield l) #[] #[])), (1, (.pointer (some ⟨g1, 0, none⟩))), (2, (.pointer (some ⟨g2, 0, none⟩)))] (sc rfl (sc rfl (sc rfl sn))) ?_
 refine T_he [0, 1, 2, 3] [.inv W.heap.size O R (J 0 O R), .rd (some ⟨g1, 0, none⟩) 1 32 32 (key.map b8), .rd (some ⟨g2, 0, none⟩) 1 1 1 [(.slice A n c)], .rd A 1 n c (info.map b8)] ⟨by decide, rfl⟩ ?_
 refine Tsr hF rfl ?_
 refine la rfl rfl rfl rfl rfl ?_
 refine L_nil ?_
 refine Tsr hF rfl ?_
 refine lm rfl rfl rfl rfl rfl ?_
 refine L_nil ?_
 refine T_block ?_
 refine T_rdadd (.rd none 1 0 0 []) rfl rfl rfl rfl (fun w _ => ⟨⟨rfl, Nat.le_refl _, Nat.zero_le _, fun _ => rfl, fun ad h => by cases h⟩, fun ad h => by cases h⟩) (fun r hr => by simp [HA.rids, rid] at hr) ?_
 refine T_as 0 _ (.rd none 1 0 0 ((hkpc key info 0).map b8)) rfl (by rw [hkpc_zero]; rfl) ?_
 refine T_loop (T := Nat × List Nat × List Nat × Option Addr × Nat × Nat) (fun ⟨k, O, R, lA, ln, lc⟩ => k ≤ 255 ∧ (hkpc key info k).length = ln) (fun ⟨k, O, R, lA, ln, lc⟩ => [(0, (.func (.yield l) #[] #[])), (1, (.pointer (some ⟨g1, 0, none⟩))), (2, (.pointer (some ⟨g2, 0, none⟩))), (4, (.slice lA ln lc)), (7, (.int .i64 ((k : Nat) : Int)))]) (fun ⟨k, O, R, lA, ln, lc⟩ => [.inv W.heap.size O R (J k O R), .rd lA 1 ln lc ((hkpc key info k).map b8), .rd (some ⟨g1, 0, none⟩) 1 32 32 (key.map b8), .rd (some ⟨g2, 0, none⟩) 1 1 1 [(.slice A n c)], .rd A 1 n c (info.map b8)]) (fun ⟨k, O, R, lA, ln, lc⟩ => 255 - k) (0, O, R, none, 0, 0) (by simp [hkpc_zero]) (sc rfl (sc rfl (sc rfl (sc rfl (sc rfl sn))))) [1, 0, 2, 3, 4] ⟨by decide, rfl⟩ ?_
 rintro ⟨k, O, R, lA, ln, lc⟩ hp
 have hp : k ≤ 255 ∧ (hkpc key info k).length = ln := hp
 have hle := hkpc_le key info k
 have hpl := hkpc_len key info k
 refine T_re [(0, (.func (.yield l) #[] #[])), (1, (.pointer (some ⟨g1, 0, none⟩))), (2, (.pointer (some ⟨g2, 0, none⟩))), (4, (.slice lA ln lc)), (7, (.int .i64 ((k : Nat) : Int)))] (sc rfl (sc rfl (sc rfl (sc rfl (sc rfl sn))))) ?_
 refine T_he [0, 1, 2, 3, 4] [.inv W.heap.size O R (J k O R), .rd lA 1 ln lc ((hkpc key info k).map b8), .rd (some ⟨g1, 0, none⟩) 1 32 32 (key.map b8), .rd (some ⟨g2, 0, none⟩) 1 1 1 [(.slice A n c)], .rd A 1 n c (info.map b8)] ⟨by decide, rfl⟩ ?_
 refine Tsr hF rfl ?_
 refine lo rfl (pr_cmp (bo := .lss) (nc_lt (a := k) (b := 255)) rfl rfl rfl rfl) rfl rfl ?_
 refine L_nil ?_
 refine T_seq ?_
 refine T_cond (decide (k < 255)) rfl (fun hc_1 => ?_) (fun hc_1 => ?_)
 ·
  have hc_1 := of_decide_eq_true hc_1
  refine T_skip ?_
  refine T_seq ?_
  refine T_block ?_
  refine Tsr hF rfl ?_
  refine lm rfl rfl rfl rfl rfl ?_
  refine la rfl rfl rfl rfl rfl ?_
  refine L_nil ?_
  refine T_seq ?_
  refine T_regD [.inv W.heap.size O R (J k O R), .rd lA 1 ln lc ((hkpc key info k).map b8), .rd (some ⟨g1, 0, none⟩) 1 32 32 (key.map b8), .rd (some ⟨g2, 0, none⟩) 1 1 1 [(.slice A n c)], .rd A 1 n c (info.map b8)] 11 11 #[false, false, false, false, false, false, false, false, false, false, false] hF kr kr ?_
  refine D_pure (i := 0) [0, 1, 2, 3, 4] rfl kr rfl (pr_sla (l := 0) (u := 32) (m := 0) sd sd sd rfl Try.underlying50 (z := 1) kr rfl rfl rfl rfl) (.inr rfl) rfl rfl ?_
  refine D_pure (i := 1) [0, 1, 2, 3, 4] rfl kr rfl (pr_move rfl rfl) (.inr rfl) rfl rfl ?_
  refine D_pure (i := 3) [0, 1, 2, 3, 4] rfl kr rfl (pr_move rfl rfl) (.inr rfl) rfl rfl ?_
  refine D_pure (i := 4) [0, 1, 2, 3, 4] rfl kr rfl (pr_add (na_i64 (a := k) (b := 1) sd) rfl rfl rfl) (.inr rfl) rfl rfl ?_
  refine D_pure (i := 5) [0, 1, 2, 3, 4] rfl kr rfl (pr_cv (nw8 (k + 1)) Try.underlying3 Try.underlying5 rfl rfl) (.inr rfl) rfl rfl ?_
  refine D_take (i := 2) [0, 1, 2, 3, 4] rfl kr rfl (ld_rdb (src_rd 3 rfl) rfl Try.underlying23 rfl rfl rfl) rfl rfl rfl ?_
  refine D_join (T := Nat) (fun _ => True) (fun g7 => [(0, (.func (.yield l) #[] #[])), (1, (.pointer (some ⟨g1, 0, none⟩))), (2, (.pointer (some ⟨g2, 0, none⟩))), (6, (.pointer (some ⟨g7, 0, none⟩))), (7, (.int .i64 ((k : Nat) : Int)))]) (fun g7 => [.blk g7 50 ((hkpc key info (k + 1)).map b8), .inv W.heap.size O R (J k O R), .rd lA 1 ln lc ((hkpc key info k).map b8), .rd (some ⟨g1, 0, none⟩) 1 32 32 (key.map b8), .rd (some ⟨g2, 0, none⟩) 1 1 1 [(.slice A n c)], .rd A 1 n c (info.map b8)]) ?_ ?_
  ·
   refine D_all [6, 9] kr (by simp) ⟨⟨_, rfl, rfl, ?_⟩, ⟨_, rfl, rfl, ?_⟩, trivial⟩
   ·
    refine id (op_bslice (e := 5) (zs := [(b8 (BitVec.ofNat 8 (k + 1)))]) (qs := [(0, (b8 (BitVec.ofNat 8 (k + 1))))]) (fun _ => by kernel_rfl) rfl rfl rfl rfl (fun g8 => ?_))
    refine D_on [1, 2, 3, 4, 5] rfl ?_
    refine D_all [7, 9] kr (by simp) ⟨⟨_, rfl, rfl, ?_⟩, ⟨_, rfl, rfl, ?_⟩, trivial⟩
    ·
     refine id (op_bslice (e := 23) (zs := [(.slice lA ln lc), (.slice A n c), (.slice (some ⟨g8, 0, none⟩) 1 1)]) (qs := [(0, (.slice lA ln lc)), (1, (.slice A n c)), (2, (.slice (some ⟨g8, 0, none⟩) 1 1))]) (fun _ => by kernel_rfl) rfl rfl rfl rfl (fun g9 => ?_))
     refine D_on [2, 3, 4, 5, 6] rfl ?_
     refine D_all [8, 9] kr (by simp) ⟨⟨_, rfl, rfl, ?_⟩, ⟨_, rfl, rfl, ?_⟩, trivial⟩
     ·
      refine id (op_cn (fun w hw => tag_f key (some ⟨g1, 0, none⟩) 32 32 ([(Pt.mk lA ln lc (hkpc key info k)), (Pt.mk A n c info), (Pt.mk (some ⟨g8, 0, none⟩) 1 1 [(BitVec.ofNat 8 (k + 1))])]) (some ⟨g9, 0, none⟩) 3 3 w (hok_cons ((src_rd 4 rfl) w hw) (hok_cons ((src_full (z := 1) 0 rfl rfl sd sd) w hw) (hok_cons (all_cons ((src_rd 3 rfl) w hw) (all_cons ((src_rd 6 rfl) w hw) (all_cons ((src_full (z := 1) 1 rfl rfl sd sd) w hw) (all_nil w)))) (hok_nil w)))) (by first | assumption | omega | (simp; done) | (simp; omega)) sd sd sd (by first | assumption | omega | (simp only [catp_cons, catp_nil, List.append_nil, List.length_append]; omega) | (simp [catp_cons, catp_nil]; done) | (simp [catp_cons, catp_nil]; omega))) (enters_of Try.func97 kr rfl) rfl rfl rfl rfl rfl (fun t10 q11 => ?_))
      refine T_slot 18 _ (.agg ((hkpc key info (k + 1)).map b8).toArray) rfl (by rw [hkpc_succ]; simp [catp_cons, catp_nil]) ?_
      refine D_on [2, 3, 4, 5, 6] rfl ?_
      refine D_one 9 _ rfl kr rfl (op_alloc (z := .agg ((List.replicate 32 0#8).map b8).toArray) (zs := ((List.replicate 32 0#8).map b8)) kr rfl rfl rfl rfl (fun g12 => ?_))
      refine D_on [3, 4, 5, 6, 7] rfl ?_
      refine D_one 10 _ rfl kr rfl (op_sto (n := 32) (vs := ((hkpc key info (k + 1)).map b8)) 0 rfl rfl kr (all8_one _) kr sd rfl rfl rfl rfl ?_)
      refine D_on [3, 4, 5, 6, 7] rfl ?_
      refine D_done kr ?_
      exact T_meet g12 trivial (sc rfl (sc rfl (sc rfl (sc rfl (sc rfl sn))))) [0, 3, 4, 5, 6, 7] ⟨by decide, rfl⟩
     ·
      refine id (op_alloc (z := .agg ((List.replicate 32 0#8).map b8).toArray) (zs := ((List.replicate 32 0#8).map b8)) kr rfl rfl rfl rfl (fun g13 => ?_))
      refine D_on [3, 4, 5, 6, 7] rfl ?_
      refine D_one 8 _ rfl kr rfl (op_cn (fun w hw => tag_f key (some ⟨g1, 0, none⟩) 32 32 ([(Pt.mk lA ln lc (hkpc key info k)), (Pt.mk A n c info), (Pt.mk (some ⟨g8, 0, none⟩) 1 1 [(BitVec.ofNat 8 (k + 1))])]) (some ⟨g9, 0, none⟩) 3 3 w (hok_cons ((src_rd 5 rfl) w hw) (hok_cons ((src_full (z := 1) 1 rfl rfl sd sd) w hw) (hok_cons (all_cons ((src_rd 4 rfl) w hw) (all_cons ((src_rd 7 rfl) w hw) (all_cons ((src_full (z := 1) 2 rfl rfl sd sd) w hw) (all_nil w)))) (hok_nil w)))) (by first | assumption | omega | (simp; done) | (simp; omega)) sd sd sd (by first | assumption | omega | (simp only [catp_cons, catp_nil, List.append_nil, List.length_append]; omega) | (simp [catp_cons, catp_nil]; done) | (simp [catp_cons, catp_nil]; omega))) (enters_of Try.func97 kr rfl) rfl rfl rfl rfl rfl (fun t14 q15 => ?_))
      refine T_slot 18 _ (.agg ((hkpc key info (k + 1)).map b8).toArray) rfl (by rw [hkpc_succ]; simp [catp_cons, catp_nil]) ?_
      refine D_on [3, 4, 5, 6, 7] rfl ?_
      refine D_one 10 _ rfl kr rfl (op_sto (n := 32) (vs := ((hkpc key info (k + 1)).map b8)) 0 rfl rfl kr (all8_one _) kr sd rfl rfl rfl rfl ?_)
      refine D_on [3, 4, 5, 6, 7] rfl ?_
      refine D_done kr ?_
      exact T_meet g13 trivial (sc rfl (sc rfl (sc rfl (sc rfl (sc rfl sn))))) [0, 3, 4, 5, 6, 7] ⟨by decide, rfl⟩
    ·
     refine id (op_alloc (z := .agg ((List.replicate 32 0#8).map b8).toArray) (zs := ((List.replicate 32 0#8).map b8)) kr rfl rfl rfl rfl (fun g16 => ?_))
     refine D_on [2, 3, 4, 5, 6] rfl ?_
     refine D_one 7 _ rfl kr rfl (op_bslice (e := 23) (zs := [(.slice lA ln lc), (.slice A n c), (.slice (some ⟨g8, 0, none⟩) 1 1)]) (qs := [(0, (.slice lA ln lc)), (1, (.slice A n c)), (2, (.slice (some ⟨g8, 0, none⟩) 1 1))]) (fun _ => by kernel_rfl) rfl rfl rfl rfl (fun g17 => ?_))
     refine D_on [3, 4, 5, 6, 7] rfl ?_
     refine D_one 8 _ rfl kr rfl (op_cn (fun w hw => tag_f key (some ⟨g1, 0, none⟩) 32 32 ([(Pt.mk lA ln lc (hkpc key info k)), (Pt.mk A n c info), (Pt.mk (some ⟨g8, 0, none⟩) 1 1 [(BitVec.ofNat 8 (k + 1))])]) (some ⟨g17, 0, none⟩) 3 3 w (hok_cons ((src_rd 5 rfl) w hw) (hok_cons ((src_full (z := 1) 0 rfl rfl sd sd) w hw) (hok_cons (all_cons ((src_rd 4 rfl) w hw) (all_cons ((src_rd 7 rfl) w hw) (all_cons ((src_full (z := 1) 2 rfl rfl sd sd) w hw) (all_nil w)))) (hok_nil w)))) (by first | assumption | omega | (simp; done) | (simp; omega)) sd sd sd (by first | assumption | omega | (simp only [catp_cons, catp_nil, List.append_nil, List.length_append]; omega) | (simp [catp_cons, catp_nil]; done) | (simp [catp_cons, catp_nil]; omega))) (enters_of Try.func97 kr rfl) rfl rfl rfl rfl rfl (fun t18 q19 => ?_))
     refine T_slot 18 _ (.agg ((hkpc key info (k + 1)).map b8).toArray) rfl (by rw [hkpc_succ]; simp [catp_cons, catp_nil]) ?_
     refine D_on [3, 4, 5, 6, 7] rfl ?_
     refine D_one 10 _ rfl kr rfl (op_sto (n := 32) (vs := ((hkpc key info (k + 1)).map b8)) 1 rfl rfl kr (all8_one _) kr sd rfl rfl rfl rfl ?_)
     refine D_on [3, 4, 5, 6, 7] rfl ?_
     refine D_done kr ?_
     exact T_meet g16 trivial (sc rfl (sc rfl (sc rfl (sc rfl (sc rfl sn))))) [0, 3, 4, 5, 6, 7] ⟨by decide, rfl⟩
   ·
    refine id (op_alloc (z := .agg ((List.replicate 32 0#8).map b8).toArray) (zs := ((List.replicate 32 0#8).map b8)) kr rfl rfl rfl rfl (fun g20 => ?_))
    refine D_on [1, 2, 3, 4, 5] rfl ?_
    refine D_one 6 _ rfl kr rfl (op_bslice (e := 5) (zs := [(b8 (BitVec.ofNat 8 (k + 1)))]) (qs := [(0, (b8 (BitVec.ofNat 8 (k + 1))))]) (fun _ => by kernel_rfl) rfl rfl rfl rfl (fun g21 => ?_))
    refine D_on [2, 3, 4, 5, 6] rfl ?_
    refine D_one 7 _ rfl kr rfl (op_bslice (e := 23) (zs := [(.slice lA ln lc), (.slice A n c), (.slice (some ⟨g21, 0, none⟩) 1 1)]) (qs := [(0, (.slice lA ln lc)), (1, (.slice A n c)), (2, (.slice (some ⟨g21, 0, none⟩) 1 1))]) (fun _ => by kernel_rfl) rfl rfl rfl rfl (fun g22 => ?_))
    refine D_on [3, 4, 5, 6, 7] rfl ?_
    refine D_one 8 _ rfl kr rfl (op_cn (fun w hw => tag_f key (some ⟨g1, 0, none⟩) 32 32 ([(Pt.mk lA ln lc (hkpc key info k)), (Pt.mk A n c info), (Pt.mk (some ⟨g21, 0, none⟩) 1 1 [(BitVec.ofNat 8 (k + 1))])]) (some ⟨g22, 0, none⟩) 3 3 w (hok_cons ((src_rd 5 rfl) w hw) (hok_cons ((src_full (z := 1) 0 rfl rfl sd sd) w hw) (hok_cons (all_cons ((src_rd 4 rfl) w hw) (all_cons ((src_rd 7 rfl) w hw) (all_cons ((src_full (z := 1) 1 rfl rfl sd sd) w hw) (all_nil w)))) (hok_nil w)))) (by first | assumption | omega | (simp; done) | (simp; omega)) sd sd sd (by first | assumption | omega | (simp only [catp_cons, catp_nil, List.append_nil, List.length_append]; omega) | (simp [catp_cons, catp_nil]; done) | (simp [catp_cons, catp_nil]; omega))) (enters_of Try.func97 kr rfl) rfl rfl rfl rfl rfl (fun t23 q24 => ?_))
    refine T_slot 18 _ (.agg ((hkpc key info (k + 1)).map b8).toArray) rfl (by rw [hkpc_succ]; simp [catp_cons, catp_nil]) ?_
    refine D_on [3, 4, 5, 6, 7] rfl ?_
    refine D_one 10 _ rfl kr rfl (op_sto (n := 32) (vs := ((hkpc key info (k + 1)).map b8)) 2 rfl rfl kr (all8_one _) kr sd rfl rfl rfl rfl ?_)
    refine D_on [3, 4, 5, 6, 7] rfl ?_
    refine D_done kr ?_
    exact T_meet g20 trivial (sc rfl (sc rfl (sc rfl (sc rfl (sc rfl sn))))) [0, 3, 4, 5, 6, 7] ⟨by decide, rfl⟩
  ·
   rintro g7 -
   refine T_re [(0, (.func (.yield l) #[] #[])), (1, (.pointer (some ⟨g1, 0, none⟩))), (2, (.pointer (some ⟨g2, 0, none⟩))), (6, (.pointer (some ⟨g7, 0, none⟩))), (7, (.int .i64 ((k : Nat) : Int)))] (sc rfl (sc rfl (sc rfl (sc rfl (sc rfl sn))))) ?_
   refine T_he [0, 1, 2, 3, 4, 5] [.blk g7 50 ((hkpc key info (k + 1)).map b8), .inv W.heap.size O R (J k O R), .rd lA 1 ln lc ((hkpc key info k).map b8), .rd (some ⟨g1, 0, none⟩) 1 32 32 (key.map b8), .rd (some ⟨g2, 0, none⟩) 1 1 1 [(.slice A n c)], .rd A 1 n c (info.map b8)] ⟨by decide, rfl⟩ ?_
   refine Tsr hF rfl ?_
   refine lo rfl (pr_sla (l := 0) (u := 32) (m := 0) sd sd sd rfl Try.underlying50 (z := 1) kr rfl rfl rfl rfl) rfl rfl ?_
   refine T_oldb 0 (zs := ((hkpc key info (k + 1)).map b8)) 0 1 32 32 rfl (by simp; omega) (by rw [List.drop_zero, List.take_of_length_le (by simp; omega)]) (by omega) (by omega) ?_
   refine T_tord 0 rfl ?_
   refine la rfl rfl rfl rfl rfl ?_
   refine L_nil ?_
   refine T_seq ?_
   refine T_regI ?_
   refine LI_opP hF rfl rfl (op_pr (pr_move rfl rfl) rfl rfl ?_)
   refine LI_opP hF rfl rfl (op_pr (pr_move rfl rfl) rfl rfl ?_)
   refine LI_op rfl (op_yield (k := k) (some ⟨g7, 0, none⟩ : Option Addr) hy sd hsJ hsX 1 rfl [0] rfl rfl rfl rfl rfl rfl rfl rfl rfl (fun _ => trivial) (fun O25 R26 => ?_) (fun O27 R28 => ?_))
   ·
    refine LI_opP hF rfl rfl (op_pr (pr_un (v := .bool false) rfl rfl rfl) rfl rfl ?_)
    refine LI_nil ?_
    refine T_cond_f rfl ?_
    refine T_skip ?_
    refine T_reg hF rfl ?_
    refine lo rfl (pr_add (na_i64 (a := k) (b := 1) sd) rfl rfl rfl) rfl rfl ?_
    refine lm rfl rfl rfl rfl rfl ?_
    refine L_nil ?_
    exact T_again (k + 1, O25, R26, some ⟨g7, 0, none⟩, 32, 32) (by simp; omega) (by first | trivial | ((try dsimp only); first | omega | (refine ⟨?_, ?_⟩ <;> omega) | (refine ⟨?_, ?_, ?_⟩ <;> omega) | (simp; done) | (simp; omega))) (sc rfl (sc rfl (sc rfl (sc rfl (sc rfl sn))))) [0, 1, 3, 4, 5] ⟨by decide, rfl⟩
   ·
    refine LI_opP hF rfl rfl (op_pr (pr_un (v := .bool true) rfl rfl rfl) rfl rfl ?_)
    refine LI_nil ?_
    refine T_cond_t rfl ?_
    refine T_ret ?_
    exact T_finX rfl rfl 0 rfl
 ·
  have hc_1 := of_decide_eq_false hc_1
  refine T_exit rfl ?_
  obtain rfl : k = 255 := by omega
  exact T_finJ rfl rfl 0 rfl
set_option maxHeartbeats 4000000 in
theorem pieces_f (key : List (BitVec 8)) (A : Option Addr) (n : Nat) (c : Nat) (w : World) (hO : HOK [] w) (hkl : key.length = 32) : Calls Try.prog 96 [(.agg (key.map b8).toArray), (.slice A n c)].toArray w (Ret (T := Nat × Nat) [] w (fun ⟨g1, g2⟩ => True) (fun ⟨g1, g2⟩ => (.func (.func 102) #[] [(.pointer (some ⟨g1, 0, none⟩)), (.pointer (some ⟨g2, 0, none⟩))].toArray)) (fun ⟨g1, g2⟩ => [.old (some ⟨g1, 0, none⟩) 1 32 32 (key.map b8), .old (some ⟨g2, 0, none⟩) 1 1 1 [(.slice A n c)]])) := by
 have hF : Wid Fence.wide := wid_wide
 refine enter (c := _) Try.func96 rfl [] _ [] (by rw [Try.ntmps96]; rfl) (own_rds hO rfl) ?_
 rw [Try.ntmps96]
 refine T_re [(0, (.agg (key.map b8).toArray)), (1, (.slice A n c))] (sc rfl (sc rfl sn)) ?_
 refine T_he [] [] ⟨by decide, rfl⟩ ?_
 refine Tsr hF rfl ?_
 refine L_op rfl (op_box (zs := (key.map b8)) rfl rfl rfl rfl rfl (fun g1 => ?_))
 refine L_op rfl (op_box (zs := [(.slice A n c)]) rfl rfl rfl rfl rfl (fun g2 => ?_))
 refine la rfl rfl rfl rfl rfl ?_
 refine L_nil ?_
 refine Tsr hF rfl ?_
 refine lo rfl (pr_mkfn (us := []) (vs := [(.pointer (some ⟨g1, 0, none⟩)), (.pointer (some ⟨g2, 0, none⟩))]) rfl rfl rfl) rfl rfl ?_
 refine la rfl rfl rfl rfl rfl ?_
 refine L_nil ?_
 refine T_ret ?_
 refine T_oldb 1 (zs := (key.map b8)) 0 1 32 32 rfl sd (by first | rfl | (rw [List.drop_zero, List.take_of_length_le (by simp; omega)]) | simp [List.map_take, List.map_drop]) sd sd ?_
 refine T_oldb 1 (zs := [(.slice A n c)]) 0 1 1 1 rfl rfl rfl sd sd ?_
 exact T_fin (g1, g2) (by first | trivial | omega | (simp; done)) (res1 rfl rfl) [1, 0] ⟨by decide, rfl⟩ rfl
set_option maxHeartbeats 4000000 in
theorem extract_f (salt : List (BitVec 8)) (A : Option Addr) (n : Nat) (c : Nat) (key : List (BitVec 8)) (B : Option Addr) (nt : Nat) (d : Nat) (w : World) (hO : HOK [.rd A 1 n c (salt.map b8), .rd B 1 nt d (key.map b8)] w) (hx : salt.length = n) (hn : n ≤ 900000000) (ht : key.length = nt) (hnt : nt ≤ 900000000) : Calls Try.prog 85 [(.slice A n c), (.slice B nt d)].toArray w (Ret (T := Unit) [] w (fun _ => True) (fun _ => (.agg ((mactag salt key).map b8).toArray)) (fun _ => [])) := by
 have hml := mactag_len salt key
 have hF : Wid Fence.wide := wid_wide
 refine enter (c := _) Try.func85 rfl [] _ [.rd A 1 n c (salt.map b8), .rd B 1 nt d (key.map b8)] (by rw [Try.ntmps85]; rfl) (own_rds hO rfl) ?_
 rw [Try.ntmps85]
 refine T_re [(0, (.slice A n c)), (1, (.slice B nt d))] (sc rfl (sc rfl sn)) ?_
 refine T_he [0, 1] [.rd A 1 n c (salt.map b8), .rd B 1 nt d (key.map b8)] ⟨by decide, rfl⟩ ?_
 refine Tsr hF rfl ?_
 refine L_op rfl (op_alloc (z := .agg ((List.replicate 32 0#8).map b8).toArray) (zs := ((List.replicate 32 0#8).map b8)) kr rfl rfl rfl rfl (fun g1 => ?_))
 refine L_nil ?_
 refine Tsr hF rfl ?_
 refine lm rfl rfl rfl rfl rfl ?_
 refine lm rfl rfl rfl rfl rfl ?_
 refine L_op rfl (op_bslice (e := 23) (zs := [(.slice B nt d)]) (qs := [(0, (.slice B nt d))]) (fun _ => by kernel_rfl) rfl rfl rfl rfl (fun g2 => ?_))
 refine L_op rfl (op_cn (fun w hw => tag_f salt A n c [(Pt.mk B nt d key)] (some ⟨g2, 0, none⟩) 1 1 w (hok_cons ((src_rd 2 rfl) w hw) (hok_cons ((src_full (z := 1) 0 rfl rfl sd sd) w hw) (hok_cons (all_cons ((src_rd 3 rfl) w hw) (all_nil w)) (hok_nil w)))) (by first | assumption | omega | (simp; done) | (simp; omega)) sd sd sd (by first | assumption | omega | (simp only [catp_cons, catp_nil, List.append_nil, List.length_append]; omega) | (simp [catp_cons, catp_nil]; done) | (simp [catp_cons, catp_nil]; omega))) (enters_of Try.func97 kr rfl) rfl rfl rfl rfl rfl (fun t3 q4 => ?_))
 refine T_slot 8 _ (.agg ((mactag salt key).map b8).toArray) rfl (by simp [catp_cons, catp_nil]) ?_
 refine L_op rfl (op_sto (n := 32) (vs := ((mactag salt key).map b8)) 1 rfl rfl kr (all8_one _) kr sd rfl rfl rfl rfl ?_)
 refine L_nil ?_
 refine T_ret ?_
 exact T_fin () (by first | trivial | omega | (simp; done)) (resb 0 rfl rfl rfl Try.underlying50 rfl (fwz (n := 32) kr sd)) [] ⟨by decide, rfl⟩ rfl
set_option maxHeartbeats 4000000 in
theorem expand_f (key : List (BitVec 8)) (info : List (BitVec 8)) (A : Option Addr) (ni : Nat) (c : Nat) (n : Nat) (w : World) (hO : HOK [.rd A 1 ni c (info.map b8)] w) (hkl : key.length = 32) (hi : info.length = ni) (hni : ni ≤ 100000000) (h1 : 1 ≤ n) (h2 : n ≤ 8160) : Calls Try.prog 84 [(.agg (key.map b8).toArray), (.slice A ni c), (.int .i64 ((n : Nat) : Int))].toArray w (Ret (T := Option Addr) [] w (fun B => True) (fun B => (.tuple [(.slice B n n), (.int .i64 ((0 : Nat) : Int))].toArray)) (fun B => [.old B 1 n n ((hkdf key info n).map b8)])) := by
 have hF : Wid Fence.wide := wid_wide
 refine enter_m (c := _) Try.func84 rfl [] _ [.rd A 1 ni c (info.map b8)] (by rw [Try.ntmps84]; rfl) (own_rds hO rfl) ?_
 rw [Try.ntmps84]
 refine T_re [(0, (.agg (key.map b8).toArray)), (1, (.slice A ni c)), (2, (.int .i64 ((n : Nat) : Int)))] (sc rfl (sc rfl (sc rfl sn))) ?_
 refine T_he [0] [.rd A 1 ni c (info.map b8)] ⟨by decide, rfl⟩ ?_
 refine Tsr hF rfl ?_
 refine L_op rfl (op_box (zs := (key.map b8)) rfl rfl rfl rfl rfl (fun g1 => ?_))
 refine L_op rfl (op_box (zs := [(.int .i64 ((n : Nat) : Int))]) rfl rfl rfl rfl rfl (fun g2 => ?_))
 refine la rfl rfl rfl rfl rfl ?_
 refine la rfl rfl rfl rfl rfl ?_
 refine L_nil ?_
 refine T_seq ?_
 refine Tsr hF rfl ?_
 refine lq rfl (ld_blk 0 rfl rfl Try.underlying3 rfl rfl rfl) rfl rfl ?_
 refine lo rfl (pr_cmp (bo := .lss) (nc_lt (a := n) (b := 1)) rfl rfl rfl rfl) rfl rfl ?_
 refine lm rfl rfl rfl rfl rfl ?_
 refine T_slot 12 (.bool (decide (n < 1))) (.bool false) rfl (congrArg _ (by simp; omega)) ?_
 refine lq rfl (ld_blk 0 rfl rfl Try.underlying3 rfl rfl rfl) rfl rfl ?_
 refine lo rfl (pr_cmp (bo := .gtr) (nc_lt (a := 8160) (b := n)) rfl rfl rfl rfl) rfl rfl ?_
 refine lo rfl (pr_pick_f rfl rfl rfl) rfl rfl ?_
 refine L_nil ?_
 refine T_cond_no (t := decide (8160 < n)) rfl (by simp; omega) ?_
 refine T_skip ?_
 refine Tsr hF rfl ?_
 refine L_op rfl (op_alloc (z := (.slice none 0 0)) (zs := [(.slice none 0 0)]) kr rfl rfl rfl rfl (fun g4 => ?_))
 refine L_nil ?_
 refine T_seq ?_
 refine Tsr hF rfl ?_
 refine lq rfl (ld_agg (ds := (key.map b8)) 2 rfl agg_all Try.underlying50 rfl (fwz (n := 32) kr sd) rfl rfl) rfl rfl ?_
 refine lm rfl rfl rfl rfl rfl ?_
 refine L_op rfl (op_cn (fun w hw => pieces_f key A ni c w (hok_nil w) sd) (enters_of Try.func96 kr rfl) rfl rfl rfl rfl rfl (fun t5 q6 => ?_))
 obtain ⟨g1_7, g2_8⟩ := t5
 refine L_nil ?_
 refine T_block ?_
 refine T_tord 0 rfl ?_
 refine T_tord 1 rfl ?_
 refine T_nilrow 5 1 ?_
 refine T_as 0 _ (.row (.slice none 0 0) 5 1 0 ((hkout key info 0).map b8)) rfl (by rw [hkout_zero]; rfl) ?_
 refine T_as 0 _ (.row (.slice none (32 * 0) 0) 5 1 (32 * 0) ((hkout key info 0).map b8)) rfl (by first | rfl | simp | (congr 1; simp)) ?_
 refine T_as 3 _ (.blk g4 23 [(.slice none (32 * 0) 0)]) rfl (by first | rfl | simp | (congr 1; simp)) ?_
 refine T_range (Θ := Option Addr) (T := Option Addr × Nat) (Tx := Nat × Option Addr × Nat) (cap := [(.pointer (some ⟨g1_7, 0, none⟩)), (.pointer (some ⟨g2_8, 0, none⟩))]) (ps := [19]) (pieces_seq key info A ni c g1_7 g2_8 sd sd sd) rfl (enters_of Try.func102 kr rfl) (fun k ⟨A1, c1⟩ => 32 * k < n) (fun k ⟨A1, c1⟩ => [.row (.slice A1 (32 * k) c1) 5 1 (32 * k) ((hkout key info k).map b8), .rd (some ⟨g2_8, 0, none⟩) 1 1 1 [(.slice A ni c)], .rd (some ⟨g1_7, 0, none⟩) 1 32 32 (key.map b8), .blk g4 23 [(.slice A1 (32 * k) c1)], .blk g2 3 [(.int .i64 ((n : Nat) : Int))], .blk g1 50 (key.map b8), .rd A 1 ni c (info.map b8)]) (fun ⟨kb, A1, c1⟩ => n ≤ 32 * kb ∧ kb ≤ 255) (fun ⟨kb, A1, c1⟩ => [.row (.slice A1 (32 * kb) c1) 5 1 (32 * kb) ((hkout key info kb).map b8), .rd (some ⟨g2_8, 0, none⟩) 1 1 1 [(.slice A ni c)], .rd (some ⟨g1_7, 0, none⟩) 1 32 32 (key.map b8), .blk g4 23 [(.slice A1 (32 * kb) c1)], .blk g2 3 [(.int .i64 ((n : Nat) : Int))], .blk g1 50 (key.map b8), .rd A 1 ni c (info.map b8)]) 0 (none, 0) (by omega) [1, 2, 3, 0, 4, 5, 6] ⟨by decide, rfl⟩ [3, 2, 6] rfl rfl (fun _ _ => rfl) (fun _ => rfl) (fun _ _ => rfl) (fun _ _ => rfl) rfl (fun _ => trivial) ?_ ?_ ?_
 ·
  intro C2 w2 lo2 rs2 l D m k t th rc hrec hk hp
  obtain ⟨A1, c1⟩ := t
  obtain ⟨B, rfl⟩ : ∃ x, x = th := ⟨_, rfl⟩
  have hp : 32 * k < n := hp
  have hk : k < 255 := hk
  have hol := hkout_len key info k
  have hpl := hkpc_len key info k
  have hF : Wid (Fence.wide.inRound l) := wid_round l
  refine T_re [(5, (.pointer (some ⟨g2, 0, none⟩))), (8, (.pointer (some ⟨g4, 0, none⟩))), (19, (.slice B 32 32))] (sc rfl (sc rfl (sc rfl sn))) ?_
  refine T_he [0, 1, 2, 3, 4, 5, 6, 7, 8, 9] [.rd B 1 32 32 ((hkpc key info (k + 1)).map b8), .obj l (.loop rc), .obj D (.deferred (some [])), .row (.slice A1 (32 * k) c1) 5 1 (32 * k) ((hkout key info k).map b8), .rd (some ⟨g2_8, 0, none⟩) 1 1 1 [(.slice A ni c)], .rd (some ⟨g1_7, 0, none⟩) 1 32 32 (key.map b8), .blk g4 23 [(.slice A1 (32 * k) c1)], .blk g2 3 [(.int .i64 ((n : Nat) : Int))], .blk g1 50 (key.map b8), .rd A 1 ni c (info.map b8)] ⟨by decide, rfl⟩ ?_
  refine T_reg hF rfl ?_
  refine la rfl rfl rfl rfl rfl ?_
  refine L_nil ?_
  refine T_begun 1 rfl hrec ?_
  refine T_block ?_
  refine Tsr hF rfl ?_
  refine lq rfl (ld_blk 6 rfl rfl Try.underlying23 rfl rfl rfl) rfl rfl ?_
  refine lm rfl rfl rfl rfl rfl ?_
  refine L_op rfl (op_append (z := (b8 (0#8))) (size := 1) (bytes := 1) 3 rfl Try.underlying23 kr kr (by decide) (src_rd 1 rfl) (all8_one _) sd sd rfl rfl rfl rfl rfl (fun A9 C10 => ?_))
  refine T_as 0 _ (.row (.slice A9 (32 * k + 32) C10) 5 1 (32 * k + 32) (((hkout key info k) ++ (hkpc key info (k + 1))).map b8)) rfl (by first | rfl | (congr 1; simp; done) | (simp only [List.map_append]; rfl) | (rw [List.map_append]; rfl)) ?_
  refine L_op rfl (op_store (vs := [(.slice A9 (32 * k + 32) C10)]) (cs' := [(.slice A9 (32 * k + 32) C10)]) 6 rfl rfl kr (one_one rfl) (by first | decide | simp | exact Nat.le_refl _) rfl rfl rfl rfl rfl ?_)
  refine L_nil ?_
  refine Tsr hF rfl ?_
  refine lq rfl (ld_blk 0 rfl rfl Try.underlying23 rfl rfl rfl) rfl rfl ?_
  refine lo rfl (pr_len_sl Try.underlying23 rfl rfl) rfl rfl ?_
  refine lq rfl (ld_blk 7 rfl rfl Try.underlying3 rfl rfl rfl) rfl rfl ?_
  refine lo rfl (pr_cmp (bo := .geq) (nc_le (a := n) (b := 32 * k + 32)) rfl rfl rfl rfl) rfl rfl ?_
  refine L_nil ?_
  refine T_cond (decide (n ≤ 32 * k + 32)) rfl (fun hc_11 => ?_) (fun hc_11 => ?_)
  ·
   have hc_11 := of_decide_eq_true hc_11
   refine T_exit rfl ?_
   refine T_as 1 _ (.row (.slice A9 (32 * (k + 1)) C10) 5 1 (32 * (k + 1)) ((hkout key info (k + 1)).map b8)) rfl (by rw [hkout_succ]; congr 1) ?_
   refine T_as 1 _ (.blk g4 23 [(.slice A9 (32 * (k + 1)) C10)]) rfl (by congr 1) ?_
   exact T_on (k + 1, A9, C10) (by dsimp only; omega) [2, 4, 1, 5, 6, 0, 7, 8, 9] ⟨by decide, rfl⟩
  ·
   have hc_11 := of_decide_eq_false hc_11
   refine T_skip ?_
   refine T_as 1 _ (.row (.slice A9 (32 * (k + 1)) C10) 5 1 (32 * (k + 1)) ((hkout key info (k + 1)).map b8)) rfl (by rw [hkout_succ]; congr 1) ?_
   refine T_as 1 _ (.blk g4 23 [(.slice A9 (32 * (k + 1)) C10)]) rfl (by congr 1) ?_
   exact T_on (A9, C10) (by omega) [2, 4, 1, 5, 6, 0, 7, 8, 9] ⟨by decide, rfl⟩
 ·
  intro D t hp
  obtain ⟨A1, c1⟩ := t
  have hp : 32 * 255 < n := hp
  refine T_re [(5, (.pointer (some ⟨g2, 0, none⟩))), (8, (.pointer (some ⟨g4, 0, none⟩)))] (sc rfl (sc rfl sn)) ?_
  refine T_he [0, 1, 2, 3, 4, 5, 6, 7] [.obj D (.deferred (some [])), .row (.slice A1 (32 * 255) c1) 5 1 (32 * 255) ((hkout key info 255).map b8), .rd (some ⟨g2_8, 0, none⟩) 1 1 1 [(.slice A ni c)], .rd (some ⟨g1_7, 0, none⟩) 1 32 32 (key.map b8), .blk g4 23 [(.slice A1 (32 * 255) c1)], .blk g2 3 [(.int .i64 ((n : Nat) : Int))], .blk g1 50 (key.map b8), .rd A 1 ni c (info.map b8)] ⟨by decide, rfl⟩ ?_
  exfalso; omega
 ·
  intro D t hq
  obtain ⟨kb, A1, c1⟩ := t
  have hq : n ≤ 32 * kb ∧ kb ≤ 255 := hq
  refine T_exit rfl ?_
  refine T_re [(5, (.pointer (some ⟨g2, 0, none⟩))), (8, (.pointer (some ⟨g4, 0, none⟩)))] (sc rfl (sc rfl sn)) ?_
  refine T_he [0, 1, 2, 3, 4, 5, 6, 7] [.obj D (.deferred (some [])), .row (.slice A1 (32 * kb) c1) 5 1 (32 * kb) ((hkout key info kb).map b8), .rd (some ⟨g2_8, 0, none⟩) 1 1 1 [(.slice A ni c)], .rd (some ⟨g1_7, 0, none⟩) 1 32 32 (key.map b8), .blk g4 23 [(.slice A1 (32 * kb) c1)], .blk g2 3 [(.int .i64 ((n : Nat) : Int))], .blk g1 50 (key.map b8), .rd A 1 ni c (info.map b8)] ⟨by decide, rfl⟩ ?_
  refine Tsr hF rfl ?_
  refine lq rfl (ld_blk 4 rfl rfl Try.underlying23 rfl rfl rfl) rfl rfl ?_
  refine lq rfl (ld_blk 5 rfl rfl Try.underlying3 rfl rfl rfl) rfl rfl ?_
  refine lq rfl (ld_blk 5 rfl rfl Try.underlying3 rfl rfl rfl) rfl rfl ?_
  refine T_old 1 rfl ?_
  refine T_know (p := 32 * kb ≤ c1) (fun w hw => (hw (.old A1 1 (32 * kb) c1 ((hkout key info kb).map b8)) (List.mem_of_getElem? (i := 0) rfl)).1.le) (fun hcap_12 => ?_)
  refine L_op rfl (op_pr (pr_slup3 (u := n) sd Try.underlying23 (z := 1) kr rfl rfl rfl rfl) rfl rfl ?_)
  refine T_prec 0 n n (((List.take n (hkout key info kb)).map b8)) rfl sd (Nat.le_refl _) sd sd (by rw [Nat.mul_one, List.map_take]) ?_
  refine la rfl rfl rfl rfl rfl ?_
  refine la rfl rfl rfl rfl rfl ?_
  refine L_nil ?_
  refine T_ret ?_
  refine T_as 0 _ (.old A1 1 n n ((hkdf key info n).map b8)) rfl (by rw [hkdf_of key info n kb (by omega) (by omega)]) ?_
  exact T_finM 2 rfl A1 (by first | trivial | omega | (simp; done)) (res2 rfl rfl rfl) [0] ⟨by decide, rfl⟩ rfl
set_option maxHeartbeats 4000000 in
theorem expand_lo_f (key : List (BitVec 8)) (info : List (BitVec 8)) (A : Option Addr) (ni : Nat) (c : Nat) (z : Int) (w : World) (hO : HOK [.rd A 1 ni c (info.map b8)] w) (hkl : key.length = 32) (hi : info.length = ni) (hni : ni ≤ 100000000) (hz : z < 1) : Calls Try.prog 84 [(.agg (key.map b8).toArray), (.slice A ni c), (.int .i64 z)].toArray w (Ret (T := Unit) [] w (fun _ => True) (fun _ => (.tuple [(.slice none 0 0), (.int .i64 ((1 : Nat) : Int))].toArray)) (fun _ => [])) := by
 have hF : Wid Fence.wide := wid_wide
 refine enter_m (c := _) Try.func84 rfl [] _ [.rd A 1 ni c (info.map b8)] (by rw [Try.ntmps84]; rfl) (own_rds hO rfl) ?_
 rw [Try.ntmps84]
 refine T_re [(0, (.agg (key.map b8).toArray)), (1, (.slice A ni c)), (2, (.int .i64 z))] (sc rfl (sc rfl (sc rfl sn))) ?_
 refine T_he [0] [.rd A 1 ni c (info.map b8)] ⟨by decide, rfl⟩ ?_
 refine Tsr hF rfl ?_
 refine L_op rfl (op_box (zs := (key.map b8)) rfl rfl rfl rfl rfl (fun g1 => ?_))
 refine L_op rfl (op_box (zs := [(.int .i64 z)]) rfl rfl rfl rfl rfl (fun g2 => ?_))
 refine la rfl rfl rfl rfl rfl ?_
 refine la rfl rfl rfl rfl rfl ?_
 refine L_nil ?_
 refine T_seq ?_
 refine Tsr hF rfl ?_
 refine lq rfl (ld_blk 0 rfl rfl Try.underlying3 rfl rfl rfl) rfl rfl ?_
 refine lo rfl (pr_cmp (bo := .lss) (k := .i64) (a := z) (b := ((1 : Nat) : Int)) (c := decide (z < ((1 : Nat) : Int))) rfl rfl rfl rfl rfl) rfl rfl ?_
 refine lm rfl rfl rfl rfl rfl ?_
 refine T_slot 12 (.bool (decide (z < ((1 : Nat) : Int)))) (.bool true) rfl (congrArg _ (by simp; omega)) ?_
 refine L_skip rfl rfl rfl ?_
 refine L_skip rfl rfl rfl ?_
 refine lo rfl (pr_pick_t rfl rfl rfl) rfl rfl ?_
 refine L_nil ?_
 refine T_cond_t rfl ?_
 refine Tsr hF rfl ?_
 refine la rfl rfl rfl rfl rfl ?_
 refine la rfl rfl rfl rfl rfl ?_
 refine L_nil ?_
 refine T_ret ?_
 exact T_finM0 () (by first | trivial | omega | (simp; done)) (res2 rfl rfl rfl) [] ⟨by decide, rfl⟩ rfl
set_option maxHeartbeats 4000000 in
theorem expand_hi_f (key : List (BitVec 8)) (info : List (BitVec 8)) (A : Option Addr) (ni : Nat) (c : Nat) (z : Int) (w : World) (hO : HOK [.rd A 1 ni c (info.map b8)] w) (hkl : key.length = 32) (hi : info.length = ni) (hni : ni ≤ 100000000) (hz : 8160 < z) : Calls Try.prog 84 [(.agg (key.map b8).toArray), (.slice A ni c), (.int .i64 z)].toArray w (Ret (T := Unit) [] w (fun _ => True) (fun _ => (.tuple [(.slice none 0 0), (.int .i64 ((1 : Nat) : Int))].toArray)) (fun _ => [])) := by
 have hF : Wid Fence.wide := wid_wide
 refine enter_m (c := _) Try.func84 rfl [] _ [.rd A 1 ni c (info.map b8)] (by rw [Try.ntmps84]; rfl) (own_rds hO rfl) ?_
 rw [Try.ntmps84]
 refine T_re [(0, (.agg (key.map b8).toArray)), (1, (.slice A ni c)), (2, (.int .i64 z))] (sc rfl (sc rfl (sc rfl sn))) ?_
 refine T_he [0] [.rd A 1 ni c (info.map b8)] ⟨by decide, rfl⟩ ?_
 refine Tsr hF rfl ?_
 refine L_op rfl (op_box (zs := (key.map b8)) rfl rfl rfl rfl rfl (fun g1 => ?_))
 refine L_op rfl (op_box (zs := [(.int .i64 z)]) rfl rfl rfl rfl rfl (fun g2 => ?_))
 refine la rfl rfl rfl rfl rfl ?_
 refine la rfl rfl rfl rfl rfl ?_
 refine L_nil ?_
 refine T_seq ?_
 refine Tsr hF rfl ?_
 refine lq rfl (ld_blk 0 rfl rfl Try.underlying3 rfl rfl rfl) rfl rfl ?_
 refine lo rfl (pr_cmp (bo := .lss) (k := .i64) (a := z) (b := ((1 : Nat) : Int)) (c := decide (z < ((1 : Nat) : Int))) rfl rfl rfl rfl rfl) rfl rfl ?_
 refine lm rfl rfl rfl rfl rfl ?_
 refine T_slot 12 (.bool (decide (z < ((1 : Nat) : Int)))) (.bool false) rfl (congrArg _ (by simp; omega)) ?_
 refine lq rfl (ld_blk 0 rfl rfl Try.underlying3 rfl rfl rfl) rfl rfl ?_
 refine lo rfl (pr_cmp (bo := .gtr) (k := .i64) (a := z) (b := ((8160 : Nat) : Int)) (c := decide (((8160 : Nat) : Int) < z)) rfl rfl rfl rfl rfl) rfl rfl ?_
 refine lo rfl (pr_pick_f rfl rfl rfl) rfl rfl ?_
 refine L_nil ?_
 refine T_cond_yes (t := decide (((8160 : Nat) : Int) < z)) rfl (by simp; omega) ?_
 refine Tsr hF rfl ?_
 refine la rfl rfl rfl rfl rfl ?_
 refine la rfl rfl rfl rfl rfl ?_
 refine L_nil ?_
 refine T_ret ?_
 exact T_finM0 () (by first | trivial | omega | (simp; done)) (res2 rfl rfl rfl) [] ⟨by decide, rfl⟩ rfl
set_option maxHeartbeats 4000000 in
theorem key_f (salt : List (BitVec 8)) (A : Option Addr) (n : Nat) (c : Nat) (key : List (BitVec 8)) (B : Option Addr) (nt : Nat) (d : Nat) (info : List (BitVec 8)) (E : Option Addr) (ni : Nat) (ce : Nat) (w : World) (hO : HOK [.rd A 1 n c (salt.map b8), .rd B 1 nt d (key.map b8), .rd E 1 ni ce (info.map b8)] w) (hx : salt.length = n) (hn : n ≤ 900000000) (ht : key.length = nt) (hnt : nt ≤ 900000000) (hi : info.length = ni) (hni : ni ≤ 100000000) : Calls Try.prog 76 [(.slice A n c), (.slice B nt d), (.slice E ni ce)].toArray w (Ret (T := Unit) [] w (fun _ => True) (fun _ => (.agg ((hkdf (mactag salt key) info 32).map b8).toArray)) (fun _ => [])) := by
 have hml := mactag_len salt key
 have hkl2 := hkdf_len (mactag salt key) info 32 (by omega)
 have hF : Wid Fence.wide := wid_wide
 refine enter (c := _) Try.func76 rfl [] _ [.rd A 1 n c (salt.map b8), .rd B 1 nt d (key.map b8), .rd E 1 ni ce (info.map b8)] (by rw [Try.ntmps76]; rfl) (own_rds hO rfl) ?_
 rw [Try.ntmps76]
 refine T_re [(0, (.slice A n c)), (1, (.slice B nt d)), (2, (.slice E ni ce))] (sc rfl (sc rfl (sc rfl sn))) ?_
 refine T_he [0, 1, 2] [.rd A 1 n c (salt.map b8), .rd B 1 nt d (key.map b8), .rd E 1 ni ce (info.map b8)] ⟨by decide, rfl⟩ ?_
 refine Tsr hF rfl ?_
 refine L_op rfl (op_alloc (z := .agg ((List.replicate 32 0#8).map b8).toArray) (zs := ((List.replicate 32 0#8).map b8)) kr rfl rfl rfl rfl (fun g1 => ?_))
 refine L_nil ?_
 refine Tsr hF rfl ?_
 refine lm rfl rfl rfl rfl rfl ?_
 refine lm rfl rfl rfl rfl rfl ?_
 refine L_op rfl (op_cn (fun w hw => extract_f salt A n c key B nt d w (hok_cons ((src_rd 1 rfl) w hw) (hok_cons ((src_rd 2 rfl) w hw) (hok_nil w))) (by first | assumption | omega | (simp; done) | (simp; omega)) sd (by first | assumption | omega | (simp; done) | (simp; omega)) sd) (enters_of Try.func85 kr rfl) rfl rfl rfl rfl rfl (fun t2 q3 => ?_))
 refine lm rfl rfl rfl rfl rfl ?_
 refine L_op rfl (op_cn (fun w hw => expand_f (mactag salt key) info E ni ce 32 w (hok_cons ((src_rd 3 rfl) w hw) (hok_nil w)) (by first | assumption | omega | (simp; done) | (simp; omega)) (by first | assumption | omega | (simp; done) | (simp; omega)) sd sd sd) (enters_of Try.func84 kr rfl) rfl rfl rfl rfl rfl (fun t4 q5 => ?_))
 obtain ⟨B6, eB6⟩ : ∃ x, x = t4 := ⟨_, rfl⟩
 subst eB6
 refine lm rfl rfl rfl rfl rfl ?_
 refine lo rfl (pr_ext (vs := [(.slice B6 32 32), (.int .i64 ((0 : Nat) : Int))]) rfl rfl rfl) rfl rfl ?_
 refine lo rfl (pr_ext (vs := [(.slice B6 32 32), (.int .i64 ((0 : Nat) : Int))]) rfl rfl rfl) rfl rfl ?_
 refine la rfl rfl rfl rfl rfl ?_
 refine la rfl rfl rfl rfl rfl ?_
 refine L_nil ?_
 refine Tsr hF rfl ?_
 refine lm rfl rfl rfl rfl rfl ?_
 refine lo rfl (pr_s2a sd Try.underlying50 rfl rfl) rfl rfl ?_
 refine lq rfl (ld_aggs (ds := ((hkdf (mactag salt key) info 32).map b8)) (src_old 0 rfl) (List.take_length) (by have h1 : (((hkdf (mactag salt key) info 32).map b8)).length = 32 := sd; omega) Try.underlying50 rfl (fwz (n := 32) kr sd) rfl rfl) rfl rfl ?_
 refine L_op rfl (op_sto (n := 32) (vs := ((hkdf (mactag salt key) info 32).map b8)) 1 rfl rfl kr (all8_one _) kr sd rfl rfl rfl rfl ?_)
 refine L_nil ?_
 refine T_ret ?_
 exact T_fin () (by first | trivial | omega | (simp; done)) (resb 0 rfl rfl rfl Try.underlying50 rfl (fwz (n := 32) kr sd)) [] ⟨by decide, rfl⟩ rfl
end Go.Proofs.Ytlplpmkdebemnaa
namespace Go.Proofs.Ytlplpmkdebemnaa
set_option linter.unusedVariables false
set_option linter.unusedSimpArgs false
set_option linter.unnecessarySimpa false
set_option maxRecDepth 100000
open Go.RowKit Bv Fw

/-- The bytes of the first k numbers, eight each. -/
def eib (xs : List (BitVec 64)) : Nat → List (BitVec 8)
  | 0 => []
  | k + 1 => eib xs k ++ lowb (ath xs k) 8
theorem eib_zero (xs : List (BitVec 64)) : eib xs 0 = [] := rfl
theorem eib_succ (xs : List (BitVec 64)) (k : Nat) : eib xs (k + 1) = eib xs k ++ lowb (ath xs k) 8 := rfl
theorem eib_len (xs : List (BitVec 64)) : ∀ k, (eib xs k).length = 8 * k
  | 0 => rfl
  | k + 1 => by rw [eib, List.length_append, eib_len xs k, lowb_len]; omega
theorem eib_one (v : BitVec 64) : eib [v] 1 = lowb v 8 := rfl
attribute [irreducible] eib

set_option maxHeartbeats 4000000 in
theorem eights_f (xs : List (BitVec 64)) (A : Option Addr) (n : Nat) (c : Nat) (w : World) (hO : HOK [.rd A 1 n c (xs.map b64)] w) (hx : xs.length = n) (hn : n ≤ 100000) : Calls Try.prog 77 [(.slice A n c)].toArray w (Ret (T := Option Addr × Nat) [] w (fun ⟨B, d⟩ => True) (fun ⟨B, d⟩ => (.slice B (8 * n) d)) (fun ⟨B, d⟩ => [.row (.slice B (8 * n) d) 5 1 (8 * n) ((eib xs n).map b8)])) := by
 have hF : Wid Fence.wide := wid_wide
 refine enter (c := _) Try.func77 rfl [] _ [.rd A 1 n c (xs.map b64)] (by rw [Try.ntmps77]; rfl) (own_rds hO rfl) ?_
 rw [Try.ntmps77]
 refine T_re [(0, (.slice A n c))] (sc rfl sn) ?_
 refine T_he [0] [.rd A 1 n c (xs.map b64)] ⟨by decide, rfl⟩ ?_
 refine Tsr hF rfl ?_
 refine la rfl rfl rfl rfl rfl ?_
 refine L_nil ?_
 refine Tsr hF rfl ?_
 refine lm rfl rfl rfl rfl rfl ?_
 refine lo rfl (pr_len_sl Try.underlying69 rfl rfl) rfl rfl ?_
 refine lo rfl (pr_mul (nm_i64 (a := 8) (b := n) sd) rfl rfl rfl) rfl rfl ?_
 refine L_op rfl (op_make (z := (b8 (0#8))) (n := 0) (c := 8 * n) Try.underlying23 (bytes := 1) kr rfl sd sd sd rfl rfl rfl rfl rfl (fun g1 => ?_))
 refine T_as 0 _ (.blk g1 5 ((List.replicate (8 * n) 0#8).map b8)) rfl (by rw [List.map_replicate]) ?_
 refine la rfl rfl rfl rfl rfl ?_
 refine L_nil ?_
 refine T_seq ?_
 refine Tsr hF rfl ?_
 refine lm rfl rfl rfl rfl rfl ?_
 refine lo rfl (pr_len_sl Try.underlying69 rfl rfl) rfl rfl ?_
 refine lm rfl rfl rfl rfl rfl ?_
 refine L_nil ?_
 refine T_block ?_
 refine T_slot 3 (.slice (some ⟨g1, 0, none⟩) 0 (8 * n)) (.slice (some ⟨g1, 0, none⟩) (8 * 0) (8 * n)) rfl (by first | rfl | (congr 2; omega) | (simp; omega)) ?_
 refine T_rowb 0 (zs := ((eib xs 0).map b8)) 1 (8 * 0) (8 * n) rfl sd sd sd (by rw [eib_zero]; rfl) ?_
 refine T_loop (T := Nat × Option Addr × Nat) (fun ⟨k, A1, c1⟩ => k ≤ n) (fun ⟨k, A1, c1⟩ => [(3, (.slice A1 (8 * k) c1)), (10, (.slice A n c)), (11, (.int .i64 ((n : Nat) : Int))), (12, (.int .i64 ((k : Nat) : Int)))]) (fun ⟨k, A1, c1⟩ => [.row (.slice A1 (8 * k) c1) 5 1 (8 * k) ((eib xs k).map b8), .rd A 1 n c (xs.map b64)]) (fun ⟨k, A1, c1⟩ => n - k) (0, some ⟨g1, 0, none⟩, 8 * n) (by first | trivial | ((try dsimp only); first | omega | (refine ⟨?_, ?_⟩ <;> omega) | (refine ⟨?_, ?_, ?_⟩ <;> omega) | (simp; done) | (simp; omega))) (sc rfl (sc rfl (sc rfl (sc rfl sn)))) [0, 1] ⟨by decide, rfl⟩ ?_
 rintro ⟨k, A1, c1⟩ hp
 have hp : k ≤ n := hp
 refine T_re [(3, (.slice A1 (8 * k) c1)), (10, (.slice A n c)), (11, (.int .i64 ((n : Nat) : Int))), (12, (.int .i64 ((k : Nat) : Int)))] (sc rfl (sc rfl (sc rfl (sc rfl sn)))) ?_
 refine T_he [0, 1] [.row (.slice A1 (8 * k) c1) 5 1 (8 * k) ((eib xs k).map b8), .rd A 1 n c (xs.map b64)] ⟨by decide, rfl⟩ ?_
 refine Tsr hF rfl ?_
 refine lo rfl (pr_cmp (bo := .lss) (nc_lt (a := k) (b := n)) rfl rfl rfl rfl) rfl rfl ?_
 refine L_nil ?_
 refine T_seq ?_
 refine T_cond (decide (k < n)) rfl (fun hc_2 => ?_) (fun hc_2 => ?_)
 ·
  have hc_2 := of_decide_eq_true hc_2
  refine T_skip ?_
  refine T_seq ?_
  refine T_block ?_
  refine Tsr hF rfl ?_
  refine lo rfl (pr_ixs1 (j := k) (src_none (src_rd 1 rfl)) sd Try.underlying69 kr rfl rfl rfl) rfl rfl ?_
  refine lq rfl (ld_src (m := k) (src_rd 1 rfl) (get64 sd) Try.underlying30 rfl rfl rfl) rfl rfl ?_
  refine la rfl rfl rfl rfl rfl ?_
  refine L_nil ?_
  refine T_reg hF rfl ?_
  refine lm rfl rfl rfl rfl rfl ?_
  refine lm rfl rfl rfl rfl rfl ?_
  refine L_op rfl (op_c1 0 rfl (fun w hw => putLow_f (eib xs k) (ath xs k) 8 A1 (8 * k) c1 w (hw _ (List.mem_of_getElem? (i := 0) rfl)) sd sd) (enters_of Try.func60 kr rfl) rfl rfl rfl rfl rfl (fun t3 q4 => ?_))
  obtain ⟨B5, d6⟩ := t3
  refine la rfl rfl rfl rfl rfl ?_
  refine L_nil ?_
  refine T_reg hF rfl ?_
  refine lo rfl (pr_add (na_i64 (a := k) (b := 1) sd) rfl rfl rfl) rfl rfl ?_
  refine lm rfl rfl rfl rfl rfl ?_
  refine L_nil ?_
  refine T_slot 3 (.slice B5 ((8 * k) + 8) d6) (.slice B5 (8 * (k + 1)) d6) rfl (by rfl) ?_
  refine T_as 0 _ (.row (.slice B5 (8 * (k + 1)) d6) 5 1 (8 * (k + 1)) ((eib xs (k + 1)).map b8)) rfl (by rw [eib_succ]; rfl) ?_
  exact T_again (k + 1, B5, d6) (by first | trivial | ((try dsimp only); first | omega | (refine ⟨?_, ?_⟩ <;> omega) | (refine ⟨?_, ?_, ?_⟩ <;> omega) | (simp; done) | (simp; omega))) (by first | trivial | ((try dsimp only); first | omega | (refine ⟨?_, ?_⟩ <;> omega) | (refine ⟨?_, ?_, ?_⟩ <;> omega) | (simp; done) | (simp; omega))) (sc rfl (sc rfl (sc rfl (sc rfl sn)))) [0, 1] ⟨by decide, rfl⟩
 ·
  have hc_2 := of_decide_eq_false hc_2
  refine T_exit rfl ?_
  obtain rfl : n = k := by omega
  refine Tsr hF rfl ?_
  refine lm rfl rfl rfl rfl rfl ?_
  refine la rfl rfl rfl rfl rfl ?_
  refine L_nil ?_
  refine T_ret ?_
  exact T_fin (A1, c1) (by first | trivial | omega | (simp; done)) (res1 rfl rfl) [0] ⟨by decide, rfl⟩ rfl
end Go.Proofs.Ytlplpmkdebemnaa
namespace Go.Proofs.Ytlplpmkdebemnaa.Fw
set_option linter.unusedVariables false
set_option linter.unusedSimpArgs false
open Go.RowKit Bv
theorem splice_rcs {xs : List Rc} {j : Nat} {r : Rc} (h : j < xs.length) : (rcs xs).take (j * 4) ++ r.cs ++ (rcs xs).drop (j * 4 + r.cs.length) = rcs (xs.set j r) := by
  rw [List.set_eq_take_append_cons_drop, if_pos h, rcs_app, rcs, rcs_take, show j * 4 + r.cs.length = (j + 1) * 4 from by show j * 4 + 4 = _; omega, rcs_drop, List.append_assoc]
section
variable {P : Program} {X : Cx} {s : List (Nat × Value)} {h : List HA} {o : Oper} {K K0 J : Jd}
/-- A record is stored among some. -/
theorem op_storeR {ty e : TypeId} {x y : Operand} {g j : Nat} {xs : List Rc} {r : Rc} (i : Nat) (hi : h[i]? = some (.blk g e (rcs xs))) (hz : (P.info? ty).map (·.size) = some 4) (hj : j < xs.length)
    (ho : o.op = .store ty x y) (hx : ev s x = some (.pointer (some ⟨g, j * 4, none⟩))) (hy : ev s y = some (.agg r.cs.toArray)) (hd : o.dst = none) (hh : Tr X s (.blk g e (rcs (xs.set j r)) :: h.eraseIdx i) K) : Tr X s h (Op P o K K0) :=
  op_store (v := .agg r.cs.toArray) (vs := r.cs) i hi rfl hz (by have := rcs_one [r]; simpa [rcs] using this) (by rw [rcs_len]; show j * 4 + 4 ≤ _; omega) (splice_rcs hj) ho hx hy hd hh
theorem op_app_roomR {d : Nat} {t e : TypeId} {x y : Operand} {g n m c k : Nat} {A : Option Addr} {xs ys zs : List Rc} (i : Nat) (hi : h[i]? = some (.blk g e (rcs xs))) (ht : P.underlying t = some (.slice e)) (hz : (P.info? e).map (·.size) = some 4)
    (hs : Src h A 4 m c (rcs ys)) (hm : n + m ≤ k) (hl : k ≤ xs.length) (hc : xs.take n ++ ys ++ xs.drop (n + m) = zs)
    (ho : o.op = .call { callee := .builtin .append, args := #[x, y], argTypes := #[t, t] }) (hx : ev s x = some (.slice (some ⟨g, 0, none⟩) n k)) (hy : ev s y = some (.slice A m c)) (hd : o.dst = some d) (hN : Nat.blt d X.N = true)
    (hh : Tr X ((d, .slice (some ⟨g, 0, none⟩) (n + m) k) :: s) (.blk g e (rcs zs) :: h.eraseIdx i) K) : Tr X s h (Op P o K K0) := fun a w st => by
  have h1 := rcs_one ys
  have hcs : (rcs xs).take (n * 4) ++ rcs ys ++ (rcs xs).drop (n * 4 + m * 4) = rcs zs := by rw [rcs_take, ← Nat.add_mul, rcs_drop, ← rcs_app, ← rcs_app, hc]
  have hb : w.heap[g]? = some (.cells (rcs xs).toArray e (0, 0)) := st.ok _ (List.mem_of_getElem? hi)
  have hrd := (hs w st.ok).1
  have hnl : (rcs ys).length = m * 4 := hrd.len
  have hyl : ys.length = m := by rw [rcs_len] at hnl; omega
  obtain ⟨ti, hi1, hi2⟩ := Option.map_eq_some_iff.1 hz
  cases A with
  | none =>
    have h0 := hrd.isn rfl; have h2 := hrd.le
    obtain rfl : m = 0 := by omega
    obtain rfl : c = 0 := h0
    obtain rfl : ys = [] := List.eq_nil_of_length_eq_zero hyl
    have hc2 : xs = zs := by rw [← hc]; simp
    subst hc2
    have hr : (execOp a.eval o).run P w = .ok (.value (.slice (some ⟨g, 0, none⟩) (n + 0) k)) w := by
      have hkn : n ≤ k := by omega
      unfold execOp
      rw [ho]
      simp [resolve, invoke, builtin, st.ag _ _ hx, st.ag _ _ hy, Builtin.append_, run_underlying ht, sizeOf, typeInfo, hi1, Builtin.lenOf, Builtin.firstCells, hkn, hi2, storeCells, rcs]
    refine op_val hr ?_
    rw [hd]
    exact hh _ _ ((st.perm (perm_erase h i _ hi)).put (Nat.blt_eq.mp hN) _)
  | some ad =>
  have hr : (execOp a.eval o).run P w = .ok (.value (.slice (some ⟨g, 0, none⟩) (n + m) k)) (w.setRow g (rcs zs).toArray) := by
    have := run_append_room (P := P) w t o.type e ti ht hi1 g n k (rcs xs).toArray hb ad m c (rcs ys) (by rw [hi2]; exact hnl) (fun j u hu => hrd.cells ad rfl j u hu) h1 hm (by rw [hi2, hnl]; simp [rcs_len]; omega)
    rw [hi2, hnl] at this
    simp only at this
    rw [hcs] at this
    unfold execOp
    rw [ho]
    simp [resolve, invoke, builtin, st.ag _ _ hx, st.ag _ _ hy, this]
  refine op_val hr ?_
  rw [hd]
  refine hh _ _ (st.swapv [.blk g e (rcs xs)] (h.eraseIdx i) [.blk g e (rcs zs)] (perm_erase h i _ hi) hN _ ⟨⟨rfl, rfl, rfl, by simp⟩, fun k _ hk => setRow_other w g k _ (fun e => hk (by simp [HA.ids, e]))⟩ ?_ ?_ ?_ ?_)
  · intro x hx; rw [List.mem_singleton] at hx; subst hx; exact setRow_heap w g _ _ e _ hb
  · intro x hx k hk; rw [List.mem_singleton] at hx; subst hx; exact .inl (by simpa [HA.ids, HA.frs] using hk)
  · simp [HA.ids]
  · intro x hx r hr; rw [List.mem_singleton] at hx; subst hx; cases hr
end
end Go.Proofs.Ytlplpmkdebemnaa.Fw
namespace Go.Proofs.Ytlplpmkdebemnaa.Fw
set_option linter.unusedVariables false
set_option linter.unusedSimpArgs false
open Go.RowKit Bv
/-- The cells of a block that holds a text of n bytes in a room of c; its mark lies behind them. -/
structure Txt (cur : List Value) (n c : Nat) (fr : Nat × Nat) (zs : List (BitVec 8)) : Prop where
  len : cur.length = c
  le : n ≤ c
  most : c ≤ maxLen
  take : cur.take n = zs.map b8
  mark : fr = (0, 0) ∨ c ≤ fr.1
section
variable {P : Program} {X : Cx} {s : List (Nat × Value)} {h : List HA} {o : Oper} {K K0 J : Jd}
theorem sob_size (xs : List (BitVec 8)) : (sob xs).size = xs.length := by simp [sob, ByteArray.size]
/-- Bytes made of a string. -/
theorem op_s2b {d : Nat} {src t e : TypeId} {x : Operand} {xs : List (BitVec 8)} {u : TypeDesc} (hs : P.underlying src = some u) (ht : P.underlying t = some (.slice e)) (he : P.underlying e = some (.int .u8)) (hl : xs.length ≤ 1000000)
    (ho : o.op = .convert src t x) (hx : ev s x = some (.string (sob xs))) (hd : o.dst = some d) (hN : Nat.blt d X.N = true)
    (hh : ∀ g c cur fr, Txt cur xs.length c fr xs → Tr X ((d, .slice (some ⟨g, 0, none⟩) xs.length c) :: s) (.obj g (.cells cur.toArray e fr) :: h) K) : Tr X s h (Op P o K K0) := fun a w st => by
  have hr : (execOp a.eval o).run P w = .ok (.value (.slice (some ⟨w.heap.size, 0, none⟩) xs.length (grownCap w xs.length 0 e))) (Lib.bytesWorld w e (sob xs)) := by
    unfold execOp; rw [ho]
    simp only [st.ag _ _ hx]
    rw [Sem.run_bind, Lib.run_convert_string_bytes w src t e _ hs ht he, sob_size]; rfl
  have hge := grownCap_ge w xs.length 0 e
  have hle := grownCap_le_maxLen w xs.length 0 e (by unfold maxLen; omega)
  have hsz : (Lib.bytesCells w e (sob xs)).size = grownCap w xs.length 0 e := by
    unfold Lib.bytesCells
    rw [sob_size]; simp [sob]; omega
  have hT : Txt (Lib.bytesCells w e (sob xs)).toList xs.length (grownCap w xs.length 0 e) ((Lib.bytesCells w e (sob xs)).size, (Lib.bytesCells w e (sob xs)).size + 1) xs := by
    refine ⟨by simpa using hsz, hge, hle, ?_, .inr (by rw [hsz]; exact Nat.le_refl _)⟩
    unfold Lib.bytesCells
    rw [Array.toList_append, List.take_append_of_le_length (by simp [sob]), List.take_of_length_le (by simp [sob])]
    simp only [sob, Array.toList_map, List.toList_toArray, List.map_map]
    apply List.map_congr_left
    intro b hb
    rfl
  refine op_val hr ?_
  rw [hd]
  refine hh _ _ _ _ hT _ _ (st.swapv [] h [.obj w.heap.size (.cells (Lib.bytesCells w e (sob xs)).toList.toArray e ((Lib.bytesCells w e (sob xs)).size, (Lib.bytesCells w e (sob xs)).size + 1))] (List.Perm.refl _) hN _ ⟨⟨rfl, rfl, rfl, by rw [Lib.bytesWorld_size]; omega⟩, fun k hk _ => Lib.bytesWorld_at_old w e _ k hk⟩ ?_ ?_ ?_ ?_)
  · intro x hx; rw [List.mem_singleton] at hx; subst hx
    show (Lib.bytesWorld w e (sob xs)).heap[w.heap.size]? = _
    rw [Lib.bytesWorld_at_new]
  · intro x hx k hk; rw [List.mem_singleton] at hx; subst hx; simp [HA.frs] at hk; subst hk; exact .inr (Nat.le_refl _)
  · simp [HA.ids]
  · intro x hx r hr; rw [List.mem_singleton] at hx; subst hx; cases hr
/-- Such a text is given up: it is read from now on. -/
theorem T_objold (i : Nat) {g n c : Nat} {e : TypeId} {cur : List Value} {fr : Nat × Nat} {zs : List (BitVec 8)} (hi : h[i]? = some (.obj g (.cells cur.toArray e fr))) (ht : Txt cur n c fr zs) (hz : zs.length = n) (hh : Tr X s (.old (some ⟨g, 0, none⟩) 1 n c (zs.map b8) :: h.eraseIdx i) J) : Tr X s h J := fun a w st => by
  have hx : w.heap[g]? = some (.cells cur.toArray e fr) := st.ok _ (List.mem_of_getElem? hi)
  have hlt := (Array.getElem?_eq_some_iff.1 hx).1
  have hok : (HA.old (some ⟨g, 0, none⟩) 1 n c (zs.map b8)).ok w := by
    refine ⟨⟨by simp [hz], ht.le, by have := ht.most; unfold maxLen at this; omega, (fun h => by cases h), fun ad ea j v hj => ?_⟩, fun ad ea _ => by cases ea; exact hlt⟩
    cases ea
    rw [← ht.take, List.getElem?_take] at hj
    split at hj
    · rw [Addr.add_lit]; simp only [World.cell?, hx]; simpa using hj
    · cases hj
  refine hh a w (st.swap [.obj g (.cells cur.toArray e fr)] (h.eraseIdx i) [_] (perm_erase h i _ hi) st.sz st.df st.sl (Keep.refl _ _) ?_ ?_ ?_ ?_)
  · intro x hx; rw [List.mem_singleton] at hx; subst hx; exact hok
  · intro x hx k hk; rw [List.mem_singleton] at hx; subst hx
    refine .inl ?_
    have : k = g := by
      obtain ⟨_, ad, e1, e2⟩ := mem_rid.1 hk
      cases e1; exact e2.symm
    simp [HA.ids, this]
  · simp [HA.ids]
  · intro x hx r hr; rw [List.mem_singleton] at hx; subst hx
    exact ⟨hr, fun y hy => by rw [List.mem_singleton] at hy; subst hy; simp [HA.ids]⟩
/-- Such a text is read. -/
theorem src_txt (i : Nat) {g n c : Nat} {e : TypeId} {cur : List Value} {fr : Nat × Nat} {zs : List (BitVec 8)} (hi : h[i]? = some (.obj g (.cells cur.toArray e fr))) (ht : Txt cur n c fr zs) : Src h (some ⟨g, 0, none⟩) 1 n c (zs.map b8) := fun w hw => by
  have hx : w.heap[g]? = some (.cells cur.toArray e fr) := hw _ (List.mem_of_getElem? hi)
  have hlt := (Array.getElem?_eq_some_iff.1 hx).1
  have hz : zs.length = n := by
    have := congrArg List.length ht.take
    rw [List.length_take, ht.len, List.length_map] at this
    have := ht.le; omega
  refine ⟨⟨by simp [hz], ht.le, by have := ht.most; unfold maxLen at this; omega, (fun h => by cases h), fun ad ea j v hj => ?_⟩, fun ad ea _ => by cases ea; exact hlt⟩
  cases ea
  rw [← ht.take, List.getElem?_take] at hj
  split at hj
  · rw [Addr.add_lit]; simp only [World.cell?, hx]; simpa using hj
  · cases hj
theorem txt_as {cur : List Value} {n n' c : Nat} {fr : Nat × Nat} {zs zs' : List (BitVec 8)} (h : Txt cur n c fr zs) (hn : n = n') (hz : zs = zs') : Txt cur n' c fr zs' := hn ▸ hz ▸ h
/-- Cells set one behind the other. -/
def sets : List Value → Nat → List Value → List Value
  | cur, _, [] => cur
  | cur, q, v :: r => sets (cur.set q v) (q + 1) r
theorem sets_len : ∀ (vs : List Value) (cur : List Value) (q : Nat), (sets cur q vs).length = cur.length
  | [], _, _ => rfl
  | v :: r, cur, q => by rw [sets, sets_len r]; simp
theorem sets_take : ∀ (vs : List Value) (cur : List Value) (q : Nat), q + vs.length ≤ cur.length → (sets cur q vs).take (q + vs.length) = cur.take q ++ vs
  | [], cur, q, _ => by simp [sets]
  | v :: r, cur, q, h => by
    rw [List.length_cons] at h
    have h2 := sets_take r (cur.set q v) (q + 1) (by simp; omega)
    rw [sets, List.length_cons, show q + (r.length + 1) = q + 1 + r.length by omega, h2, List.take_succ_eq_append_getElem (by simp; omega)]
    simp only [List.getElem_set_self, List.append_assoc, List.singleton_append]
    congr 1
    apply List.ext_getElem?
    intro k
    by_cases hk : k < q
    · rw [List.getElem?_take, List.getElem?_take, if_pos hk, if_pos hk, List.getElem?_set_ne (by omega)]
    · rw [List.getElem?_take, List.getElem?_take, if_neg hk, if_neg hk]
theorem heap_setCells_self (g : Nat) : ∀ (vs : List Value) (q : Nat) (w : World) (cur : List Value) (e : TypeId) (fr : Nat × Nat), w.heap[g]? = some (.cells cur.toArray e fr) → (w.setCells g q vs).heap[g]? = some (.cells (sets cur q vs).toArray e fr)
  | [], _, _, _, _, _, h => h
  | v :: r, q, w, cur, e, fr, h => by
    refine heap_setCells_self g r (q + 1) _ (cur.set q v) e fr ?_
    simp only [World.setCell, Array.getElem?_modify, if_pos, h, Option.map_some, Option.isSome_none, Bool.false_eq_true, if_false]
    simp
theorem size_setCells' (b : Nat) : ∀ (vs : List Value) (q : Nat) (w : World), (w.setCells b q vs).heap.size = w.heap.size
  | [], _, _ => rfl
  | v :: r, q, w => by rw [World.setCells, size_setCells' b r]; simp [World.setCell]
theorem heap_setCells_else (g : Nat) : ∀ (vs : List Value) (q : Nat) (w : World) (k : Nat), k ≠ g → (w.setCells g q vs).heap[k]? = w.heap[k]?
  | [], _, _, _, _ => rfl
  | v :: r, q, w, k, h => by rw [World.setCells, heap_setCells_else g r (q + 1) _ k h]; exact Below.heap_setCell w ⟨g, q, none⟩ v k h
theorem same_setCells (g : Nat) : ∀ (vs : List Value) (q : Nat) (w : World), (w.setCells g q vs).os = w.os ∧ (w.setCells g q vs).tape = w.tape ∧ (w.setCells g q vs).output = w.output
  | [], _, _ => ⟨rfl, rfl, rfl⟩
  | v :: r, q, w => by rw [World.setCells]; exact same_setCells g r (q + 1) _
theorem Txt.zlen {cur : List Value} {n c : Nat} {fr : Nat × Nat} {zs : List (BitVec 8)} (h : Txt cur n c fr zs) : zs.length = n := by
  have := congrArg List.length h.take
  rw [List.length_take, h.len, List.length_map] at this
  have := h.le; omega
/-- append onto a text that may bear a mark: in its place, or in a new block. -/
theorem op_app_obj {d : Nat} {t e : TypeId} {x y : Operand} {A : Option Addr} {g n m c c2 : Nat} {cur : List Value} {fr : Nat × Nat} {zs news : List (BitVec 8)} (i : Nat) (hi : h[i]? = some (.obj g (.cells cur.toArray e fr))) (hT : Txt cur n c fr zs) (ht : P.underlying t = some (.slice e)) (hin : (P.info? e).map (fun i => (i.zero, i.size, i.bytes)) = some (some (.int .u8 0), 1, 1))
    (hs : Src h A 1 m c2 (news.map b8)) (hb : n + m ≤ 100000000000000)
    (ho : o.op = .call { callee := .builtin .append, args := #[x, y], argTypes := #[t, t] }) (hx : ev s x = some (.slice (some ⟨g, 0, none⟩) n c)) (hy : ev s y = some (.slice A m c2)) (hd : o.dst = some d) (hN : Nat.blt d X.N = true)
    (hh : ∀ g' c' cur' fr', Txt cur' (n + m) c' fr' (zs ++ news) → Tr X ((d, .slice (some ⟨g', 0, none⟩) (n + m) c') :: s) (.obj g' (.cells cur'.toArray e fr') :: h.eraseIdx i) K) : Tr X s h (Op P o K K0) := fun a w st => by
  have hg : w.heap[g]? = some (.cells cur.toArray e fr) := st.ok _ (List.mem_of_getElem? hi)
  have hrd := (hs w st.ok).1
  have hnl : (news.map b8).length = m := by have := hrd.len; simpa using this
  have hnl2 : news.length = m := by simpa using hnl
  have hzl := hT.zlen
  have hle := hT.le
  have hcl := hT.len
  obtain ⟨ti, hi1, hi2⟩ := Option.map_eq_some_iff.1 hin
  simp only [Prod.mk.injEq] at hi2
  obtain ⟨hz, hsize, hby⟩ := hi2
  have done : ∀ (g' c' : Nat) (cur' : List Value) (fr' : Nat × Nat) (w' : World), Txt cur' (n + m) c' fr' (zs ++ news) → w'.heap[g']? = some (.cells cur'.toArray e fr') → (g' = g ∨ w.heap.size ≤ g') → Keep [g] w w' → K (a.put o.dst (.slice (some ⟨g', 0, none⟩) (n + m) c')) w' := by
    intro g' c' cur' fr' w' hT' hg' hor hk
    rw [hd]
    refine hh g' c' cur' fr' hT' _ _ (st.swapv [.obj g (.cells cur.toArray e fr)] (h.eraseIdx i) [.obj g' (.cells cur'.toArray e fr')] (perm_erase h i _ hi) hN _ (by simpa [HA.ids] using hk) ?_ ?_ ?_ ?_)
    · intro x hx; rw [List.mem_singleton] at hx; subst hx; exact hg'
    · intro x hx k hk; rw [List.mem_singleton] at hx; subst hx
      have : k = g' := by simpa [HA.frs] using hk
      subst this
      rcases hor with rfl | h1
      · exact .inl (by simp [HA.ids])
      · exact .inr h1
    · simp [HA.ids]
    · intro x hx r hr; rw [List.mem_singleton] at hx; subst hx; cases hr
  cases A with
  | none =>
    have h0 := hrd.isn rfl; have h2 := hrd.le
    obtain rfl : m = 0 := by omega
    obtain rfl : c2 = 0 := h0
    obtain rfl : news = [] := List.eq_nil_of_length_eq_zero hnl2
    have hr : (execOp a.eval o).run P w = .ok (.value (.slice (some ⟨g, 0, none⟩) (n + 0) c)) w := by
      unfold execOp
      rw [ho]
      simp [resolve, invoke, builtin, st.ag _ _ hx, st.ag _ _ hy, Builtin.append_, run_underlying ht, sizeOf, typeInfo, hi1, Builtin.lenOf, Builtin.firstCells, hle, hsize, storeCells]
    exact op_val hr (done g c cur fr w (by simpa using hT) hg (.inl rfl) (Keep.refl _ _))
  | some ad =>
  by_cases hroom : n + m ≤ c
  · have hcell : ∀ j, j < (news.map b8).length → (w.cell? ⟨g, 0 + n * ti.size + j, none⟩).isSome = true := by
      intro j hj
      simp only [World.cell?, hg, Option.isSome_none, Bool.false_eq_true, if_false, hsize]
      rw [List.getElem?_toArray, List.getElem?_eq_getElem (by omega)]; rfl
    have hfz : ∀ j, j < (news.map b8).length → w.frozen? ⟨g, 0 + n * ti.size + j, none⟩ = false := by
      intro j hj
      obtain ⟨lo, hi'⟩ := fr
      simp only [World.frozen?, hg, hsize]
      rcases hT.mark with q | q
      · cases q; simp
      · have : ¬ lo ≤ n + j := by simp only at q; omega
        simp [this]
    have h9 := run_append_room_cells (P := P) w t o.type e ti ht hi1 g 0 n c ad m c2 (news.map b8) (by rw [hsize, hnl, Nat.mul_one]) (fun j u hu => hrd.cells ad rfl j u hu) (all8_one news) hroom hcell hfz
    rw [hsize, Nat.zero_add, Nat.mul_one] at h9
    have hr : (execOp a.eval o).run P w = .ok (.value (.slice (some ⟨g, 0, none⟩) (n + m) c)) (w.setCells g n (news.map b8)) := by
      unfold execOp
      rw [ho]
      simp [resolve, invoke, builtin, st.ag _ _ hx, st.ag _ _ hy, h9]
    obtain ⟨s1, s2, s3⟩ := same_setCells g (news.map b8) n w
    refine op_val hr (done g c (sets cur n (news.map b8)) fr _ ⟨by rw [sets_len, hcl], hroom, hT.most, ?_, hT.mark⟩ (heap_setCells_self g _ n w cur e fr hg) (.inl rfl) ⟨⟨s1, s2, s3, by rw [size_setCells']; exact Nat.le_refl _⟩, fun k _ hk => heap_setCells_else g _ n w k (by simpa using hk)⟩)
    have := sets_take (news.map b8) cur n (by omega)
    rw [hnl] at this
    rw [this, hT.take, List.map_append]
  · have hgrow := grownCap_ge w (n + m) c e
    have hmost := grownCap_le_maxLen w (n + m) c e (by unfold maxLen; omega)
    have h9 := run_append_grow (P := P) w t o.type e ti _ ht hi1 hz ⟨g, 0, none⟩ n c (zs.map b8) (by rw [hsize, List.length_map, hzl, Nat.mul_one]) (fun j v hj => by
      rw [← hT.take, List.getElem?_take] at hj
      split at hj
      · rw [Addr.add_lit]; simp only [World.cell?, hg]; simpa using hj
      · cases hj) ad m c2 (news.map b8) (by rw [hsize, hnl, Nat.mul_one]) (fun j u hu => hrd.cells ad rfl j u hu) (by omega) (by omega) (by rw [hby]; exact growslice_fits (by omega) (by omega))
    have hr : (execOp a.eval o).run P w = .ok (.value (.slice (some ⟨w.heap.size, 0, none⟩) (n + m) (grownCap w (n + m) c e))) (w.drew.alloc (.cells ((zs.map b8).toArray ++ (news.map b8).toArray ++ Builtin.zeroCells (Value.int .u8 0).cells (grownCap w (n + m) c e - (n + m))) e)) := by
      unfold execOp
      rw [ho]
      simp [resolve, invoke, builtin, st.ag _ _ hx, st.ag _ _ hy, h9]
    have hzc : (Builtin.zeroCells (Value.int .u8 0).cells (grownCap w (n + m) c e - (n + m))).size = grownCap w (n + m) c e - (n + m) := by
      simp [Builtin.zeroCells, Value.cells]
    refine op_val hr (done w.heap.size _ ((zs.map b8).toArray ++ (news.map b8).toArray ++ Builtin.zeroCells (Value.int .u8 0).cells (grownCap w (n + m) c e - (n + m))).toList (0, 0) _ ⟨?_, hgrow, hmost, ?_, .inl rfl⟩ ?_ (.inr (Nat.le_refl _)) ⟨⟨rfl, rfl, rfl, by rw [World.size_alloc]; exact Nat.le_succ _⟩, fun k hk _ => ?_⟩)
    · rw [Array.length_toList, Array.size_append, hzc]; simp [hzl, hnl2]; omega
    · rw [Array.toList_append, List.take_append_of_le_length (by simp [hzl, hnl2]), List.take_of_length_le (by simp [hzl, hnl2])]; simp
    · have := heap_alloc_new w.drew (.cells ((zs.map b8).toArray ++ (news.map b8).toArray ++ Builtin.zeroCells (Value.int .u8 0).cells (grownCap w (n + m) c e - (n + m))) e)
      rw [Array.toArray_toList]
      exact this
    · exact Below.heap_alloc w.drew _ _ hk
end
end Go.Proofs.Ytlplpmkdebemnaa.Fw
