/- What package chacha and its reference answer, by facts. Conditions: lengths far below the greatest. -/
import Derived.Test.YtemjinkdfjoicaaGOct
import Derived.Test.YtemjinkdfjoicaaChaP
import Derived.Test.YtemjinkdfjoicaaFwX
import Derived.Test.YtemjinkdfjoicaaProg
import Derived.Test.YtemjinkdfjoicaaFwU
namespace Go.Proofs.Ytemjinkdfjoicaa
set_option linter.unusedVariables false
set_option linter.unusedSimpArgs false
set_option linter.unnecessarySimpa false
open Go.RowKit Bv Fw

set_option maxHeartbeats 4000000 in
theorem rotl32_f (x : BitVec 32) (k : Int) (s : Nat) (w : World) (hO : HOK [] w) (hs : s < 32) (hk : k % 32 = (s : Int)) : Calls Try.prog 68 [(b32 x), (.int .i64 k)].toArray w (Ret (T := Unit) [] w (fun _ => True) (fun _ => (b32 (rol32 x s))) (fun _ => [])) := by
 have hF : Wid Fence.wide := wid_wide
 refine enter (c := _) Try.func68 rfl [] [(b32 x), (.int .i64 k)] [] (by rw [Try.ntmps68]; rfl) (own_rds hO rfl) ?_
 rw [Try.ntmps68]
 refine T_re [(0, (b32 x)), (1, (.int .i64 k))] (sc rfl (sc rfl sn)) ?_
 refine T_he [] [] ⟨by decide, rfl⟩ ?_
 refine Tsr hF rfl ?_
 refine la rfl rfl rfl rfl rfl ?_
 refine L_nil ?_
 refine Tsr hF rfl ?_
 refine lm rfl rfl rfl rfl rfl ?_
 refine lo rfl (pr_cv (zc_u64 k) Try.underlying3 Try.underlying33 rfl rfl) rfl rfl ?_
 refine lo rfl (pr_and (ib_and64 _ (31#64)) rfl rfl rfl) rfl rfl ?_
 refine la rfl rfl rfl rfl rfl ?_
 refine L_nil ?_
 refine Tsr hF rfl ?_
 refine lm rfl rfl rfl rfl rfl ?_
 refine lm rfl rfl rfl rfl rfl ?_
 refine lo rfl (pr_shift (sh_shl32 x _ (((BitVec.ofInt 64 k) &&& 31#64).toNat)) rfl rfl rfl rfl) rfl rfl ?_
 refine lm rfl rfl rfl rfl rfl ?_
 refine lm rfl rfl rfl rfl rfl ?_
 refine lo rfl (pr_sub (sub64 (32#64) _) rfl rfl rfl) rfl rfl ?_
 refine lo rfl (pr_shift (sh_shr32 x _ ((32#64 - ((BitVec.ofInt 64 k) &&& 31#64)).toNat)) rfl rfl rfl rfl) rfl rfl ?_
 refine lo rfl (pr_or (ib_or32 _ _) rfl rfl rfl) rfl rfl ?_
 refine la rfl rfl rfl rfl rfl ?_
 refine L_nil ?_
 refine T_ret ?_
 refine T_slot 4 _ (b32 (rol32 x s)) rfl (by rw [rot_and k s hs hk]; exact congrArg b32 (rol32_and x s hs)) ?_
 exact T_fin () (by first | trivial | omega | (simp; done)) (res1 rfl rfl) [] ⟨by decide, rfl⟩ rfl
set_option maxHeartbeats 4000000 in
theorem left_f (x : BitVec 32) (n : Nat) (w : World) (hO : HOK [] w) (h0 : 0 < n) (h1 : n < 32) : Calls Try.prog 70 [(b32 x), (.int .i64 ((n : Nat) : Int))].toArray w (Ret (T := Unit) [] w (fun _ => True) (fun _ => (b32 (rol32 x n))) (fun _ => [])) := by
 have hF : Wid Fence.wide := wid_wide
 refine enter (c := _) Try.func70 rfl [] [(b32 x), (.int .i64 ((n : Nat) : Int))] [] (by rw [Try.ntmps70]; rfl) (own_rds hO rfl) ?_
 rw [Try.ntmps70]
 refine T_re [(0, (b32 x)), (1, (.int .i64 ((n : Nat) : Int)))] (sc rfl (sc rfl sn)) ?_
 refine T_he [] [] ⟨by decide, rfl⟩ ?_
 refine Tsr hF rfl ?_
 refine la rfl rfl rfl rfl rfl ?_
 refine L_nil ?_
 refine Tsr hF rfl ?_
 refine lm rfl rfl rfl rfl rfl ?_
 refine lm rfl rfl rfl rfl rfl ?_
 refine lo rfl (pr_cv (ni_u64 (a := n) sd) Try.underlying3 Try.underlying33 rfl rfl) rfl rfl ?_
 refine lo rfl (pr_shift (sh_shl32 x _ n) rfl rfl rfl rfl) rfl rfl ?_
 refine lm rfl rfl rfl rfl rfl ?_
 refine lm rfl rfl rfl rfl rfl ?_
 refine lo rfl (pr_sub (ns_i64 (a := 32) (b := n) sd sd) rfl rfl rfl) rfl rfl ?_
 refine lo rfl (pr_cv (ni_u64 (a := 32 - n) sd) Try.underlying3 Try.underlying33 rfl rfl) rfl rfl ?_
 refine lo rfl (pr_shift (sh_shr32 x _ (32 - n)) rfl rfl rfl rfl) rfl rfl ?_
 refine lo rfl (pr_or (ib_or32 _ _) rfl rfl rfl) rfl rfl ?_
 refine la rfl rfl rfl rfl rfl ?_
 refine L_nil ?_
 refine T_ret ?_
 refine T_slot 4 (b32 ((x <<< n) ||| (x >>> (32 - n)))) (b32 (rol32 x n)) rfl (by rfl) ?_
 exact T_fin () (by first | trivial | omega | (simp; done)) (res1 rfl rfl) [] ⟨by decide, rfl⟩ rfl
set_option maxHeartbeats 4000000 in
theorem quarter_f (a : BitVec 32) (b : BitVec 32) (c : BitVec 32) (d : BitVec 32) (w : World) (hO : HOK [] w)  : Calls Try.prog 64 [(b32 a), (b32 b), (b32 c), (b32 d)].toArray w (Ret (T := Unit) [] w (fun _ => True) (fun _ => (.tuple [(b32 (qa a b c d)), (b32 (qb a b c d)), (b32 (qc a b c d)), (b32 (qd a b c d))].toArray)) (fun _ => [])) := by
 have hF : Wid Fence.wide := wid_wide
 refine enter (c := _) Try.func64 rfl [] [(b32 a), (b32 b), (b32 c), (b32 d)] [] (by rw [Try.ntmps64]; rfl) (own_rds hO rfl) ?_
 rw [Try.ntmps64]
 refine T_re [(0, (b32 a)), (1, (b32 b)), (2, (b32 c)), (3, (b32 d))] (sc rfl (sc rfl (sc rfl (sc rfl sn)))) ?_
 refine T_he [] [] ⟨by decide, rfl⟩ ?_
 refine Tsr hF rfl ?_
 refine la rfl rfl rfl rfl rfl ?_
 refine la rfl rfl rfl rfl rfl ?_
 refine la rfl rfl rfl rfl rfl ?_
 refine la rfl rfl rfl rfl rfl ?_
 refine L_nil ?_
 refine Tsr hF rfl ?_
 refine lm rfl rfl rfl rfl rfl ?_
 refine lm rfl rfl rfl rfl rfl ?_
 refine lo rfl (pr_add (add32 _ _) rfl rfl rfl) rfl rfl ?_
 refine la rfl rfl rfl rfl rfl ?_
 refine L_nil ?_
 refine Tsr hF rfl ?_
 refine lm rfl rfl rfl rfl rfl ?_
 refine lm rfl rfl rfl rfl rfl ?_
 refine lo rfl (pr_xor (ib_xor32 _ _) rfl rfl rfl) rfl rfl ?_
 refine L_op rfl (op_cn (fun w hw => rotl32_f (d ^^^ (a + b)) ((16 : Nat) : Int) 16 w (hok_nil w) sd (by omega)) (enters_of Try.func68 kr rfl) rfl rfl rfl rfl rfl (fun t1 q2 => ?_))
 refine la rfl rfl rfl rfl rfl ?_
 refine L_nil ?_
 refine Tsr hF rfl ?_
 refine lm rfl rfl rfl rfl rfl ?_
 refine lm rfl rfl rfl rfl rfl ?_
 refine lo rfl (pr_add (add32 _ _) rfl rfl rfl) rfl rfl ?_
 refine la rfl rfl rfl rfl rfl ?_
 refine L_nil ?_
 refine Tsr hF rfl ?_
 refine lm rfl rfl rfl rfl rfl ?_
 refine lm rfl rfl rfl rfl rfl ?_
 refine lo rfl (pr_xor (ib_xor32 _ _) rfl rfl rfl) rfl rfl ?_
 refine L_op rfl (op_cn (fun w hw => rotl32_f (b ^^^ (c + (rol32 (d ^^^ (a + b)) 16))) ((12 : Nat) : Int) 12 w (hok_nil w) sd (by omega)) (enters_of Try.func68 kr rfl) rfl rfl rfl rfl rfl (fun t3 q4 => ?_))
 refine la rfl rfl rfl rfl rfl ?_
 refine L_nil ?_
 refine Tsr hF rfl ?_
 refine lm rfl rfl rfl rfl rfl ?_
 refine lm rfl rfl rfl rfl rfl ?_
 refine lo rfl (pr_add (add32 _ _) rfl rfl rfl) rfl rfl ?_
 refine la rfl rfl rfl rfl rfl ?_
 refine L_nil ?_
 refine Tsr hF rfl ?_
 refine lm rfl rfl rfl rfl rfl ?_
 refine lm rfl rfl rfl rfl rfl ?_
 refine lo rfl (pr_xor (ib_xor32 _ _) rfl rfl rfl) rfl rfl ?_
 refine L_op rfl (op_cn (fun w hw => rotl32_f ((rol32 (d ^^^ (a + b)) 16) ^^^ ((a + b) + (rol32 (b ^^^ (c + (rol32 (d ^^^ (a + b)) 16))) 12))) ((8 : Nat) : Int) 8 w (hok_nil w) sd (by omega)) (enters_of Try.func68 kr rfl) rfl rfl rfl rfl rfl (fun t5 q6 => ?_))
 refine la rfl rfl rfl rfl rfl ?_
 refine L_nil ?_
 refine Tsr hF rfl ?_
 refine lm rfl rfl rfl rfl rfl ?_
 refine lm rfl rfl rfl rfl rfl ?_
 refine lo rfl (pr_add (add32 _ _) rfl rfl rfl) rfl rfl ?_
 refine la rfl rfl rfl rfl rfl ?_
 refine L_nil ?_
 refine Tsr hF rfl ?_
 refine lm rfl rfl rfl rfl rfl ?_
 refine lm rfl rfl rfl rfl rfl ?_
 refine lo rfl (pr_xor (ib_xor32 _ _) rfl rfl rfl) rfl rfl ?_
 refine L_op rfl (op_cn (fun w hw => rotl32_f ((rol32 (b ^^^ (c + (rol32 (d ^^^ (a + b)) 16))) 12) ^^^ ((c + (rol32 (d ^^^ (a + b)) 16)) + (rol32 ((rol32 (d ^^^ (a + b)) 16) ^^^ ((a + b) + (rol32 (b ^^^ (c + (rol32 (d ^^^ (a + b)) 16))) 12))) 8))) ((7 : Nat) : Int) 7 w (hok_nil w) sd (by omega)) (enters_of Try.func68 kr rfl) rfl rfl rfl rfl rfl (fun t7 q8 => ?_))
 refine la rfl rfl rfl rfl rfl ?_
 refine L_nil ?_
 refine Tsr hF rfl ?_
 refine lm rfl rfl rfl rfl rfl ?_
 refine lm rfl rfl rfl rfl rfl ?_
 refine lm rfl rfl rfl rfl rfl ?_
 refine lm rfl rfl rfl rfl rfl ?_
 refine la rfl rfl rfl rfl rfl ?_
 refine la rfl rfl rfl rfl rfl ?_
 refine la rfl rfl rfl rfl rfl ?_
 refine la rfl rfl rfl rfl rfl ?_
 refine L_nil ?_
 refine T_ret ?_
 refine T_slot 8 _ (b32 (qa a b c d)) rfl (by first | rfl | (unfold qb qc qd qa; rfl) | (unfold qc qd qa; rfl) | (unfold qd qa; rfl) | (unfold qa; rfl)) ?_
 refine T_slot 9 _ (b32 (qb a b c d)) rfl (by first | rfl | (unfold qb qc qd qa; rfl) | (unfold qc qd qa; rfl) | (unfold qd qa; rfl) | (unfold qa; rfl)) ?_
 refine T_slot 10 _ (b32 (qc a b c d)) rfl (by first | rfl | (unfold qb qc qd qa; rfl) | (unfold qc qd qa; rfl) | (unfold qd qa; rfl) | (unfold qa; rfl)) ?_
 refine T_slot 11 _ (b32 (qd a b c d)) rfl (by first | rfl | (unfold qb qc qd qa; rfl) | (unfold qc qd qa; rfl) | (unfold qd qa; rfl) | (unfold qa; rfl)) ?_
 exact T_fin () (by first | trivial | omega | (simp; done)) (res4 rfl rfl rfl rfl rfl) [] ⟨by decide, rfl⟩ rfl
set_option maxHeartbeats 4000000 in
theorem rquarter_f (a : BitVec 32) (b : BitVec 32) (c : BitVec 32) (d : BitVec 32) (w : World) (hO : HOK [] w)  : Calls Try.prog 69 [(b32 a), (b32 b), (b32 c), (b32 d)].toArray w (Ret (T := Unit) [] w (fun _ => True) (fun _ => (.tuple [(b32 (qa a b c d)), (b32 (qb a b c d)), (b32 (qc a b c d)), (b32 (qd a b c d))].toArray)) (fun _ => [])) := by
 have hF : Wid Fence.wide := wid_wide
 refine enter (c := _) Try.func69 rfl [] [(b32 a), (b32 b), (b32 c), (b32 d)] [] (by rw [Try.ntmps69]; rfl) (own_rds hO rfl) ?_
 rw [Try.ntmps69]
 refine T_re [(0, (b32 a)), (1, (b32 b)), (2, (b32 c)), (3, (b32 d))] (sc rfl (sc rfl (sc rfl (sc rfl sn)))) ?_
 refine T_he [] [] ⟨by decide, rfl⟩ ?_
 refine Tsr hF rfl ?_
 refine la rfl rfl rfl rfl rfl ?_
 refine la rfl rfl rfl rfl rfl ?_
 refine la rfl rfl rfl rfl rfl ?_
 refine la rfl rfl rfl rfl rfl ?_
 refine L_nil ?_
 refine Tsr hF rfl ?_
 refine lm rfl rfl rfl rfl rfl ?_
 refine lm rfl rfl rfl rfl rfl ?_
 refine lo rfl (pr_add (add32 _ _) rfl rfl rfl) rfl rfl ?_
 refine la rfl rfl rfl rfl rfl ?_
 refine L_nil ?_
 refine Tsr hF rfl ?_
 refine lm rfl rfl rfl rfl rfl ?_
 refine lm rfl rfl rfl rfl rfl ?_
 refine lo rfl (pr_xor (ib_xor32 _ _) rfl rfl rfl) rfl rfl ?_
 refine L_op rfl (op_cn (fun w hw => left_f (d ^^^ (a + b)) 16 w (hok_nil w) sd sd) (enters_of Try.func70 kr rfl) rfl rfl rfl rfl rfl (fun t1 q2 => ?_))
 refine la rfl rfl rfl rfl rfl ?_
 refine L_nil ?_
 refine Tsr hF rfl ?_
 refine lm rfl rfl rfl rfl rfl ?_
 refine lm rfl rfl rfl rfl rfl ?_
 refine lo rfl (pr_add (add32 _ _) rfl rfl rfl) rfl rfl ?_
 refine la rfl rfl rfl rfl rfl ?_
 refine L_nil ?_
 refine Tsr hF rfl ?_
 refine lm rfl rfl rfl rfl rfl ?_
 refine lm rfl rfl rfl rfl rfl ?_
 refine lo rfl (pr_xor (ib_xor32 _ _) rfl rfl rfl) rfl rfl ?_
 refine L_op rfl (op_cn (fun w hw => left_f (b ^^^ (c + (rol32 (d ^^^ (a + b)) 16))) 12 w (hok_nil w) sd sd) (enters_of Try.func70 kr rfl) rfl rfl rfl rfl rfl (fun t3 q4 => ?_))
 refine la rfl rfl rfl rfl rfl ?_
 refine L_nil ?_
 refine Tsr hF rfl ?_
 refine lm rfl rfl rfl rfl rfl ?_
 refine lm rfl rfl rfl rfl rfl ?_
 refine lo rfl (pr_add (add32 _ _) rfl rfl rfl) rfl rfl ?_
 refine la rfl rfl rfl rfl rfl ?_
 refine L_nil ?_
 refine Tsr hF rfl ?_
 refine lm rfl rfl rfl rfl rfl ?_
 refine lm rfl rfl rfl rfl rfl ?_
 refine lo rfl (pr_xor (ib_xor32 _ _) rfl rfl rfl) rfl rfl ?_
 refine L_op rfl (op_cn (fun w hw => left_f ((rol32 (d ^^^ (a + b)) 16) ^^^ ((a + b) + (rol32 (b ^^^ (c + (rol32 (d ^^^ (a + b)) 16))) 12))) 8 w (hok_nil w) sd sd) (enters_of Try.func70 kr rfl) rfl rfl rfl rfl rfl (fun t5 q6 => ?_))
 refine la rfl rfl rfl rfl rfl ?_
 refine L_nil ?_
 refine Tsr hF rfl ?_
 refine lm rfl rfl rfl rfl rfl ?_
 refine lm rfl rfl rfl rfl rfl ?_
 refine lo rfl (pr_add (add32 _ _) rfl rfl rfl) rfl rfl ?_
 refine la rfl rfl rfl rfl rfl ?_
 refine L_nil ?_
 refine Tsr hF rfl ?_
 refine lm rfl rfl rfl rfl rfl ?_
 refine lm rfl rfl rfl rfl rfl ?_
 refine lo rfl (pr_xor (ib_xor32 _ _) rfl rfl rfl) rfl rfl ?_
 refine L_op rfl (op_cn (fun w hw => left_f ((rol32 (b ^^^ (c + (rol32 (d ^^^ (a + b)) 16))) 12) ^^^ ((c + (rol32 (d ^^^ (a + b)) 16)) + (rol32 ((rol32 (d ^^^ (a + b)) 16) ^^^ ((a + b) + (rol32 (b ^^^ (c + (rol32 (d ^^^ (a + b)) 16))) 12))) 8))) 7 w (hok_nil w) sd sd) (enters_of Try.func70 kr rfl) rfl rfl rfl rfl rfl (fun t7 q8 => ?_))
 refine la rfl rfl rfl rfl rfl ?_
 refine L_nil ?_
 refine Tsr hF rfl ?_
 refine lm rfl rfl rfl rfl rfl ?_
 refine lm rfl rfl rfl rfl rfl ?_
 refine lm rfl rfl rfl rfl rfl ?_
 refine lm rfl rfl rfl rfl rfl ?_
 refine la rfl rfl rfl rfl rfl ?_
 refine la rfl rfl rfl rfl rfl ?_
 refine la rfl rfl rfl rfl rfl ?_
 refine la rfl rfl rfl rfl rfl ?_
 refine L_nil ?_
 refine T_ret ?_
 refine T_slot 8 _ (b32 (qa a b c d)) rfl (by first | rfl | (unfold qb qc qd qa; rfl) | (unfold qc qd qa; rfl) | (unfold qd qa; rfl) | (unfold qa; rfl)) ?_
 refine T_slot 9 _ (b32 (qb a b c d)) rfl (by first | rfl | (unfold qb qc qd qa; rfl) | (unfold qc qd qa; rfl) | (unfold qd qa; rfl) | (unfold qa; rfl)) ?_
 refine T_slot 10 _ (b32 (qc a b c d)) rfl (by first | rfl | (unfold qb qc qd qa; rfl) | (unfold qc qd qa; rfl) | (unfold qd qa; rfl) | (unfold qa; rfl)) ?_
 refine T_slot 11 _ (b32 (qd a b c d)) rfl (by first | rfl | (unfold qb qc qd qa; rfl) | (unfold qc qd qa; rfl) | (unfold qd qa; rfl) | (unfold qa; rfl)) ?_
 exact T_fin () (by first | trivial | omega | (simp; done)) (res4 rfl rfl rfl rfl rfl) [] ⟨by decide, rfl⟩ rfl
theorem ctr_next (ctr : BitVec 32) (k : Nat) : ctr + BitVec.ofNat 32 k + 1#32 = ctr + BitVec.ofNat 32 (k + 1) := by
  rw [BitVec.add_assoc, BitVec.ofNat_add]
theorem ctr_zero (ctr : BitVec 32) : ctr + BitVec.ofNat 32 0 = ctr := by simp
theorem cq16 {s : List (BitVec 32)} {i j k l : Nat} (h : s.length = 16) : (qr4 s i j k l).length = 16 := by rw [qr4_len, h]
theorem cc16 {s : List (BitVec 32)} {k : Nat} (h : s.length = 16) : (colr s k).length = 16 := by rw [colr_len, h]
theorem cd16 {s : List (BitVec 32)} {k : Nat} (h : s.length = 16) : (diar s k).length = 16 := by rw [diar_len, h]

set_option maxHeartbeats 4000000 in
theorem cstate_f (key : List (BitVec 8)) (ctr : BitVec 32) (nonce : List (BitVec 8)) (w : World) (hO : HOK [] w) (hk : key.length = 32) (hn : nonce.length = 12) : Calls Try.prog 63 [(.agg (key.map b8).toArray), (b32 ctr), (.agg (nonce.map b8).toArray)].toArray w (Ret (T := Unit) [] w (fun _ => True) (fun _ => (.agg ((cstB key ctr nonce 3).map b32).toArray)) (fun _ => [])) := by
 have hsa := cstA_len key
 have hsb := cstB_len key ctr nonce
 have hcr := fun k => (crounds_len (cstB key ctr nonce 3) k).trans (hsb 3)
 have hbl := cblock_len key ctr nonce
 have hF : Wid Fence.wide := wid_wide
 refine enter (c := _) Try.func63 rfl [] [(.agg (key.map b8).toArray), (b32 ctr), (.agg (nonce.map b8).toArray)] [] (by rw [Try.ntmps63]; rfl) (own_rds hO rfl) ?_
 rw [Try.ntmps63]
 refine T_re [(0, (.agg (key.map b8).toArray)), (1, (b32 ctr)), (2, (.agg (nonce.map b8).toArray))] (sc rfl (sc rfl (sc rfl sn))) ?_
 refine T_he [] [] ⟨by decide, rfl⟩ ?_
 refine Tsr hF rfl ?_
 refine L_op rfl (op_box (zs := (key.map b8)) rfl rfl rfl rfl rfl (fun g1 => ?_))
 refine L_op rfl (op_box (zs := (nonce.map b8)) rfl rfl rfl rfl rfl (fun g2 => ?_))
 refine L_op rfl (op_alloc (z := .agg ((List.replicate 16 0#32).map b32).toArray) (zs := ((List.replicate 16 0#32).map b32)) kr rfl rfl rfl rfl (fun g3 => ?_))
 refine L_nil ?_
 refine Tsr hF rfl ?_
 refine lo rfl (pr_build (qs := [(0, (b32 (1634760805#32))), (1, (b32 (857760878#32))), (2, (b32 (2036477234#32))), (3, (b32 (1797285236#32)))]) (v := .agg ([1634760805#32, 857760878#32, 2036477234#32, 1797285236#32, 0#32, 0#32, 0#32, 0#32, 0#32, 0#32, 0#32, 0#32, 0#32, 0#32, 0#32, 0#32].map b32).toArray) (fun _ => by kernel_rfl) rfl rfl) rfl rfl ?_
 refine L_op rfl (op_alloc (z := .agg ((List.replicate 16 0#32).map b32).toArray) (zs := ((List.replicate 16 0#32).map b32)) kr rfl rfl rfl rfl (fun g4 => ?_))
 refine L_op rfl (op_sto (n := 16) (vs := ([1634760805#32, 857760878#32, 2036477234#32, 1797285236#32, 0#32, 0#32, 0#32, 0#32, 0#32, 0#32, 0#32, 0#32, 0#32, 0#32, 0#32, 0#32].map b32)) 0 rfl rfl kr (all32_one _) kr kr rfl rfl rfl rfl ?_)
 refine L_nil ?_
 refine T_seq ?_
 refine Tsr hF rfl ?_
 refine lm rfl rfl rfl rfl rfl ?_
 refine L_nil ?_
 refine T_block ?_
 refine T_as 0 _ (.blk g4 90 ((cstA key 0).map b32)) rfl (by rw [cstA_zero]) ?_
 refine T_loop (T := Nat) (fun i => i ≤ 8) (fun i => [(1, (b32 ctr)), (3, (.pointer (some ⟨g1, 0, none⟩))), (5, (.pointer (some ⟨g2, 0, none⟩))), (6, (.pointer (some ⟨g3, 0, none⟩))), (7, (.pointer (some ⟨g4, 0, none⟩))), (11, (.int .i64 ((i : Nat) : Int)))]) (fun i => [.blk g4 90 ((cstA key i).map b32), .blk g3 90 ((List.replicate 16 0#32).map b32), .blk g2 38 (nonce.map b8), .blk g1 22 (key.map b8)]) (fun i => 8 - i) 0 (by first | trivial | ((try dsimp only); first | omega | (refine ⟨?_, ?_⟩ <;> omega) | (refine ⟨?_, ?_, ?_⟩ <;> omega) | (simp; done) | (simp; omega))) (sc rfl (sc rfl (sc rfl (sc rfl (sc rfl (sc rfl sn)))))) [0, 1, 2, 3] ⟨by decide, rfl⟩ ?_
 rintro i hp
 have hp : i ≤ 8 := hp
 have hsi := hsa i
 refine T_re [(1, (b32 ctr)), (3, (.pointer (some ⟨g1, 0, none⟩))), (5, (.pointer (some ⟨g2, 0, none⟩))), (6, (.pointer (some ⟨g3, 0, none⟩))), (7, (.pointer (some ⟨g4, 0, none⟩))), (11, (.int .i64 ((i : Nat) : Int)))] (sc rfl (sc rfl (sc rfl (sc rfl (sc rfl (sc rfl sn)))))) ?_
 refine T_he [0, 1, 2, 3] [.blk g4 90 ((cstA key i).map b32), .blk g3 90 ((List.replicate 16 0#32).map b32), .blk g2 38 (nonce.map b8), .blk g1 22 (key.map b8)] ⟨by decide, rfl⟩ ?_
 refine Tsr hF rfl ?_
 refine lo rfl (pr_cmp (bo := .lss) (nc_lt (a := i) (b := 8)) rfl rfl rfl rfl) rfl rfl ?_
 refine L_nil ?_
 refine T_seq ?_
 refine T_cond (decide (i < 8)) rfl (fun hc_5 => ?_) (fun hc_5 => ?_)
 ·
  have hc_5 := of_decide_eq_true hc_5
  refine T_skip ?_
  refine T_seq ?_
  refine T_block ?_
  refine Tsr hF rfl ?_
  refine lm rfl rfl rfl rfl rfl ?_
  refine la rfl rfl rfl rfl rfl ?_
  refine L_nil ?_
  refine T_reg hF rfl ?_
  refine lm rfl rfl rfl rfl rfl ?_
  refine lo rfl (pr_add (na_i64 (a := 4) (b := i) sd) rfl rfl rfl) rfl rfl ?_
  refine lm rfl rfl rfl rfl rfl ?_
  refine lo rfl (pr_mul (nm_i64 (a := 4) (b := i) sd) rfl rfl rfl) rfl rfl ?_
  refine lo rfl (pr_sla (l := 4 * i) (u := 32) (m := 4 * i) sd sd sd (by omega) Try.underlying22 (z := 1) kr rfl rfl ⟨_, rfl⟩ rfl) rfl rfl ?_
  refine L_op rfl (op_cn (fun w hw => low_f (List.take (32 - (4 * i)) (List.drop (4 * i) key)) 4 (some ⟨g1, 4 * i, none⟩) (32 - (4 * i)) (32 - (4 * i)) w (hok_cons ((src_sub 3 rfl sd sd sd) w hw) (hok_nil w)) sd sd sd) (enters_of Try.func32 kr rfl) rfl rfl rfl rfl rfl (fun t6 q7 => ?_))
  refine lo rfl (pr_cv (cv64_32 _) Try.underlying49 Try.underlying63 rfl rfl) rfl rfl ?_
  refine lo rfl (pr_ixa (j := 4 + i) (m' := 4 + i) sd (by omega) Try.underlying90 (z := 1) kr rfl rfl rfl) rfl rfl ?_
  refine L_op rfl (op_store (vs := [(b32 ((low (List.take (32 - (4 * i)) (List.drop (4 * i) key)) 4).setWidth 32))]) (cs' := ((List.set (cstA key i) (4 + i) ((low (List.take (32 - (4 * i)) (List.drop (4 * i) key)) 4).setWidth 32)).map b32)) 0 rfl rfl kr (one_one rfl) (stl sd) (splice_map (f := b32) sd) rfl rfl rfl rfl ?_)
  refine L_nil ?_
  refine T_reg hF rfl ?_
  refine lo rfl (pr_add (na_i64 (a := i) (b := 1) sd) rfl rfl rfl) rfl rfl ?_
  refine lm rfl rfl rfl rfl rfl ?_
  refine L_nil ?_
  refine T_as 0 _ (.blk g4 90 ((cstA key (i + 1)).map b32)) rfl (by rw [cstA_succ, low_tk _ _ 4 (by omega), le32_def]) ?_
  exact T_again (i + 1) (by first | trivial | ((try dsimp only); first | omega | (refine ⟨?_, ?_⟩ <;> omega) | (refine ⟨?_, ?_, ?_⟩ <;> omega) | (simp; done) | (simp; omega))) (by first | trivial | ((try dsimp only); first | omega | (refine ⟨?_, ?_⟩ <;> omega) | (refine ⟨?_, ?_, ?_⟩ <;> omega) | (simp; done) | (simp; omega))) (sc rfl (sc rfl (sc rfl (sc rfl (sc rfl (sc rfl sn)))))) [0, 1, 2, 3] ⟨by decide, rfl⟩
 ·
  have hc_5 := of_decide_eq_false hc_5
  refine T_exit rfl ?_
  obtain rfl : 8 = i := by omega
  refine Tsr hF rfl ?_
  refine lm rfl rfl rfl rfl rfl ?_
  refine lo rfl (pr_ixa (j := 12) (m' := 12) sd (by omega) Try.underlying90 (z := 1) kr rfl rfl rfl) rfl rfl ?_
  refine L_op rfl (op_store (vs := [(b32 ctr)]) (cs' := ((List.set (cstA key 8) 12 ctr).map b32)) 0 rfl rfl kr (one_one rfl) (stl sd) (splice_map (f := b32) sd) rfl rfl rfl rfl ?_)
  refine L_nil ?_
  refine T_seq ?_
  refine Tsr hF rfl ?_
  refine lm rfl rfl rfl rfl rfl ?_
  refine L_nil ?_
  refine T_block ?_
  refine T_as 0 _ (.blk g4 90 ((cstB key ctr nonce 0).map b32)) rfl (by rw [cstB_zero]) ?_
  refine T_loop (T := Nat) (fun i => i ≤ 3) (fun i => [(5, (.pointer (some ⟨g2, 0, none⟩))), (6, (.pointer (some ⟨g3, 0, none⟩))), (7, (.pointer (some ⟨g4, 0, none⟩))), (25, (.int .i64 ((i : Nat) : Int)))]) (fun i => [.blk g4 90 ((cstB key ctr nonce i).map b32), .blk g3 90 ((List.replicate 16 0#32).map b32), .blk g2 38 (nonce.map b8), .blk g1 22 (key.map b8)]) (fun i => 3 - i) 0 (by first | trivial | ((try dsimp only); first | omega | (refine ⟨?_, ?_⟩ <;> omega) | (refine ⟨?_, ?_, ?_⟩ <;> omega) | (simp; done) | (simp; omega))) (sc rfl (sc rfl (sc rfl (sc rfl sn)))) [0, 1, 2, 3] ⟨by decide, rfl⟩ ?_
  rintro i hp
  have hp : i ≤ 3 := hp
  have hsj := hsb i
  refine T_re [(5, (.pointer (some ⟨g2, 0, none⟩))), (6, (.pointer (some ⟨g3, 0, none⟩))), (7, (.pointer (some ⟨g4, 0, none⟩))), (25, (.int .i64 ((i : Nat) : Int)))] (sc rfl (sc rfl (sc rfl (sc rfl sn)))) ?_
  refine T_he [0, 1, 2, 3] [.blk g4 90 ((cstB key ctr nonce i).map b32), .blk g3 90 ((List.replicate 16 0#32).map b32), .blk g2 38 (nonce.map b8), .blk g1 22 (key.map b8)] ⟨by decide, rfl⟩ ?_
  refine Tsr hF rfl ?_
  refine lo rfl (pr_cmp (bo := .lss) (nc_lt (a := i) (b := 3)) rfl rfl rfl rfl) rfl rfl ?_
  refine L_nil ?_
  refine T_seq ?_
  refine T_cond (decide (i < 3)) rfl (fun hc_8 => ?_) (fun hc_8 => ?_)
  ·
   have hc_8 := of_decide_eq_true hc_8
   refine T_skip ?_
   refine T_seq ?_
   refine T_block ?_
   refine Tsr hF rfl ?_
   refine lm rfl rfl rfl rfl rfl ?_
   refine la rfl rfl rfl rfl rfl ?_
   refine L_nil ?_
   refine T_reg hF rfl ?_
   refine lm rfl rfl rfl rfl rfl ?_
   refine lo rfl (pr_add (na_i64 (a := 13) (b := i) sd) rfl rfl rfl) rfl rfl ?_
   refine lm rfl rfl rfl rfl rfl ?_
   refine lo rfl (pr_mul (nm_i64 (a := 4) (b := i) sd) rfl rfl rfl) rfl rfl ?_
   refine lo rfl (pr_sla (l := 4 * i) (u := 12) (m := 4 * i) sd sd sd (by omega) Try.underlying38 (z := 1) kr rfl rfl ⟨_, rfl⟩ rfl) rfl rfl ?_
   refine L_op rfl (op_cn (fun w hw => low_f (List.take (12 - (4 * i)) (List.drop (4 * i) nonce)) 4 (some ⟨g2, 4 * i, none⟩) (12 - (4 * i)) (12 - (4 * i)) w (hok_cons ((src_sub 2 rfl sd sd sd) w hw) (hok_nil w)) sd sd sd) (enters_of Try.func32 kr rfl) rfl rfl rfl rfl rfl (fun t9 q10 => ?_))
   refine lo rfl (pr_cv (cv64_32 _) Try.underlying49 Try.underlying63 rfl rfl) rfl rfl ?_
   refine lo rfl (pr_ixa (j := 13 + i) (m' := 13 + i) sd (by omega) Try.underlying90 (z := 1) kr rfl rfl rfl) rfl rfl ?_
   refine L_op rfl (op_store (vs := [(b32 ((low (List.take (12 - (4 * i)) (List.drop (4 * i) nonce)) 4).setWidth 32))]) (cs' := ((List.set (cstB key ctr nonce i) (13 + i) ((low (List.take (12 - (4 * i)) (List.drop (4 * i) nonce)) 4).setWidth 32)).map b32)) 0 rfl rfl kr (one_one rfl) (stl sd) (splice_map (f := b32) sd) rfl rfl rfl rfl ?_)
   refine L_nil ?_
   refine T_reg hF rfl ?_
   refine lo rfl (pr_add (na_i64 (a := i) (b := 1) sd) rfl rfl rfl) rfl rfl ?_
   refine lm rfl rfl rfl rfl rfl ?_
   refine L_nil ?_
   refine T_as 0 _ (.blk g4 90 ((cstB key ctr nonce (i + 1)).map b32)) rfl (by rw [cstB_succ, low_tk _ _ 4 (by omega), le32_def]) ?_
   exact T_again (i + 1) (by first | trivial | ((try dsimp only); first | omega | (refine ⟨?_, ?_⟩ <;> omega) | (refine ⟨?_, ?_, ?_⟩ <;> omega) | (simp; done) | (simp; omega))) (by first | trivial | ((try dsimp only); first | omega | (refine ⟨?_, ?_⟩ <;> omega) | (refine ⟨?_, ?_, ?_⟩ <;> omega) | (simp; done) | (simp; omega))) (sc rfl (sc rfl (sc rfl (sc rfl sn)))) [0, 1, 2, 3] ⟨by decide, rfl⟩
  ·
   have hc_8 := of_decide_eq_false hc_8
   refine T_exit rfl ?_
   obtain rfl : 3 = i := by omega
   refine Tsr hF rfl ?_
   refine lq rfl (ld_agg (ds := ((cstB key ctr nonce 3).map b32)) 0 rfl agg_all Try.underlying90 rfl (fwz (n := 16) kr sd) rfl rfl) rfl rfl ?_
   refine L_op rfl (op_sto (n := 16) (vs := ((cstB key ctr nonce 3).map b32)) 1 rfl rfl kr (all32_one _) kr sd rfl rfl rfl rfl ?_)
   refine L_nil ?_
   refine T_ret ?_
   exact T_fin () (by first | trivial | omega | (simp; done)) (resb 0 rfl rfl rfl Try.underlying90 rfl (fwz (n := 16) kr sd)) [] ⟨by decide, rfl⟩ rfl
set_option maxRecDepth 100000 in
set_option maxHeartbeats 4000000 in
theorem cblock_f (key : List (BitVec 8)) (ctr : BitVec 32) (nonce : List (BitVec 8)) (w : World) (hO : HOK [] w) (hk : key.length = 32) (hn : nonce.length = 12) : Calls Try.prog 56 [(.agg (key.map b8).toArray), (b32 ctr), (.agg (nonce.map b8).toArray)].toArray w (Ret (T := Unit) [] w (fun _ => True) (fun _ => (.agg ((cblock key ctr nonce).map b8).toArray)) (fun _ => [])) := by
 have hsa := cstA_len key
 have hsb := cstB_len key ctr nonce
 have hcr := fun k => (crounds_len (cstB key ctr nonce 3) k).trans (hsb 3)
 have hbl := cblock_len key ctr nonce
 have hol := outb_len (crounds (cstB key ctr nonce 3) 10) (cstB key ctr nonce 3)
 have hF : Wid Fence.wide := wid_wide
 refine enter (c := _) Try.func56 rfl [] [(.agg (key.map b8).toArray), (b32 ctr), (.agg (nonce.map b8).toArray)] [] (by rw [Try.ntmps56]; rfl) (own_rds hO rfl) ?_
 rw [Try.ntmps56]
 refine T_re [(0, (.agg (key.map b8).toArray)), (1, (b32 ctr)), (2, (.agg (nonce.map b8).toArray))] (sc rfl (sc rfl (sc rfl sn))) ?_
 refine T_he [] [] ⟨by decide, rfl⟩ ?_
 refine Tsr hF rfl ?_
 refine L_op rfl (op_box (zs := (key.map b8)) rfl rfl rfl rfl rfl (fun g1 => ?_))
 refine L_op rfl (op_box (zs := (nonce.map b8)) rfl rfl rfl rfl rfl (fun g2 => ?_))
 refine L_op rfl (op_alloc (z := .agg ((List.replicate 64 0#8).map b8).toArray) (zs := ((List.replicate 64 0#8).map b8)) kr rfl rfl rfl rfl (fun g3 => ?_))
 refine L_nil ?_
 refine Tsr hF rfl ?_
 refine lq rfl (ld_agg (ds := (key.map b8)) 2 rfl agg_all Try.underlying22 rfl (fwz (n := 32) kr sd) rfl rfl) rfl rfl ?_
 refine lm rfl rfl rfl rfl rfl ?_
 refine lq rfl (ld_agg (ds := (nonce.map b8)) 1 rfl agg_all Try.underlying38 rfl (fwz (n := 12) kr sd) rfl rfl) rfl rfl ?_
 refine L_op rfl (op_cn (fun w hw => cstate_f key ctr nonce w (hok_nil w) (by first | assumption | exact sd) (by first | assumption | exact sd)) (enters_of Try.func63 kr rfl) rfl rfl rfl rfl rfl (fun t4 q5 => ?_))
 refine L_op rfl (op_alloc (z := .agg ((List.replicate 16 0#32).map b32).toArray) (zs := ((List.replicate 16 0#32).map b32)) kr rfl rfl rfl rfl (fun g6 => ?_))
 refine L_op rfl (op_sto (n := 16) (vs := ((cstB key ctr nonce 3).map b32)) 0 rfl rfl kr (all32_one _) kr sd rfl rfl rfl rfl ?_)
 refine L_nil ?_
 refine Tsr hF rfl ?_
 refine lq rfl (ld_agg (ds := ((cstB key ctr nonce 3).map b32)) 0 rfl agg_all Try.underlying90 rfl (fwz (n := 16) kr sd) rfl rfl) rfl rfl ?_
 refine L_op rfl (op_alloc (z := .agg ((List.replicate 16 0#32).map b32).toArray) (zs := ((List.replicate 16 0#32).map b32)) kr rfl rfl rfl rfl (fun g7 => ?_))
 refine L_op rfl (op_sto (n := 16) (vs := ((cstB key ctr nonce 3).map b32)) 0 rfl rfl kr (all32_one _) kr sd rfl rfl rfl rfl ?_)
 refine L_nil ?_
 refine T_seq ?_
 refine Tsr hF rfl ?_
 refine lm rfl rfl rfl rfl rfl ?_
 refine L_nil ?_
 refine T_block ?_
 refine T_as 0 _ (.blk g7 90 ((crounds (cstB key ctr nonce 3) 0).map b32)) rfl (by rw [crounds_zero]) ?_
 refine T_loop (T := Nat) (fun k => k ≤ 10) (fun k => [(6, (.pointer (some ⟨g3, 0, none⟩))), (7, (.pointer (some ⟨g6, 0, none⟩))), (8, (.pointer (some ⟨g7, 0, none⟩))), (21, (.int .i64 ((k : Nat) : Int)))]) (fun k => [.blk g7 90 ((crounds (cstB key ctr nonce 3) k).map b32), .blk g6 90 ((cstB key ctr nonce 3).map b32), .blk g3 84 ((List.replicate 64 0#8).map b8), .blk g2 38 (nonce.map b8), .blk g1 22 (key.map b8)]) (fun k => 10 - k) 0 (by first | trivial | ((try dsimp only); first | omega | (refine ⟨?_, ?_⟩ <;> omega) | (refine ⟨?_, ?_, ?_⟩ <;> omega) | (simp; done) | (simp; omega))) (sc rfl (sc rfl (sc rfl (sc rfl sn)))) [0, 1, 2, 3, 4] ⟨by decide, rfl⟩ ?_
 rintro k hp
 have hp : k ≤ 10 := hp
 have hck := hcr k
 refine T_re [(6, (.pointer (some ⟨g3, 0, none⟩))), (7, (.pointer (some ⟨g6, 0, none⟩))), (8, (.pointer (some ⟨g7, 0, none⟩))), (21, (.int .i64 ((k : Nat) : Int)))] (sc rfl (sc rfl (sc rfl (sc rfl sn)))) ?_
 refine T_he [0, 1, 2, 3, 4] [.blk g7 90 ((crounds (cstB key ctr nonce 3) k).map b32), .blk g6 90 ((cstB key ctr nonce 3).map b32), .blk g3 84 ((List.replicate 64 0#8).map b8), .blk g2 38 (nonce.map b8), .blk g1 22 (key.map b8)] ⟨by decide, rfl⟩ ?_
 refine Tsr hF rfl ?_
 refine lo rfl (pr_cmp (bo := .lss) (nc_lt (a := k) (b := 10)) rfl rfl rfl rfl) rfl rfl ?_
 refine L_nil ?_
 refine T_seq ?_
 refine T_cond (decide (k < 10)) rfl (fun hc_8 => ?_) (fun hc_8 => ?_)
 ·
  have hc_8 := of_decide_eq_true hc_8
  refine T_skip ?_
  refine T_seq ?_
  refine T_block ?_
  refine T_seq ?_
  refine Tsr hF rfl ?_
  refine lm rfl rfl rfl rfl rfl ?_
  refine L_nil ?_
  refine T_block ?_
  refine T_as 0 _ (.blk g7 90 ((colr (crounds (cstB key ctr nonce 3) k) 0).map b32)) rfl (by rw [colr_zero]) ?_
  refine T_loop (T := Nat) (fun i => i ≤ 4) (fun i => [(6, (.pointer (some ⟨g3, 0, none⟩))), (7, (.pointer (some ⟨g6, 0, none⟩))), (8, (.pointer (some ⟨g7, 0, none⟩))), (21, (.int .i64 ((k : Nat) : Int))), (23, (.int .i64 ((i : Nat) : Int)))]) (fun i => [.blk g7 90 ((colr (crounds (cstB key ctr nonce 3) k) i).map b32), .blk g6 90 ((cstB key ctr nonce 3).map b32), .blk g3 84 ((List.replicate 64 0#8).map b8), .blk g2 38 (nonce.map b8), .blk g1 22 (key.map b8)]) (fun i => 4 - i) 0 (by first | trivial | ((try dsimp only); first | omega | (refine ⟨?_, ?_⟩ <;> omega) | (refine ⟨?_, ?_, ?_⟩ <;> omega) | (simp; done) | (simp; omega))) (sc rfl (sc rfl (sc rfl (sc rfl (sc rfl sn))))) [0, 1, 2, 3, 4] ⟨by decide, rfl⟩ ?_
  rintro i hp
  have hp : i ≤ 4 := hp
  have hci := cc16 (k := i) hck
  refine T_re [(6, (.pointer (some ⟨g3, 0, none⟩))), (7, (.pointer (some ⟨g6, 0, none⟩))), (8, (.pointer (some ⟨g7, 0, none⟩))), (21, (.int .i64 ((k : Nat) : Int))), (23, (.int .i64 ((i : Nat) : Int)))] (sc rfl (sc rfl (sc rfl (sc rfl (sc rfl sn))))) ?_
  refine T_he [0, 1, 2, 3, 4] [.blk g7 90 ((colr (crounds (cstB key ctr nonce 3) k) i).map b32), .blk g6 90 ((cstB key ctr nonce 3).map b32), .blk g3 84 ((List.replicate 64 0#8).map b8), .blk g2 38 (nonce.map b8), .blk g1 22 (key.map b8)] ⟨by decide, rfl⟩ ?_
  refine Tsr hF rfl ?_
  refine lo rfl (pr_cmp (bo := .lss) (nc_lt (a := i) (b := 4)) rfl rfl rfl rfl) rfl rfl ?_
  refine L_nil ?_
  refine T_seq ?_
  refine T_cond (decide (i < 4)) rfl (fun hc_9 => ?_) (fun hc_9 => ?_)
  ·
   have hc_9 := of_decide_eq_true hc_9
   refine T_skip ?_
   refine T_seq ?_
   refine T_block ?_
   refine Tsr hF rfl ?_
   refine lm rfl rfl rfl rfl rfl ?_
   refine la rfl rfl rfl rfl rfl ?_
   refine L_nil ?_
   refine T_regD [.blk g7 90 ((colr (crounds (cstB key ctr nonce 3) k) i).map b32), .blk g6 90 ((cstB key ctr nonce 3).map b32), .blk g3 84 ((List.replicate 64 0#8).map b8), .blk g2 38 (nonce.map b8), .blk g1 22 (key.map b8)] 29 36 #[false, false, false, false, false, false, false, false, false, false, false, false, false, false, false, false, false, false, false, false, false, false, false, false, false, false, false, false, false, false, false, false, false, false, false, false] hF kr kr ?_
   refine D_pure (i := 0) [0, 1, 2, 3, 4] rfl kr rfl (pr_move rfl rfl) (.inr rfl) rfl rfl ?_
   refine D_pure (i := 1) [0, 1, 2, 3, 4] rfl kr rfl (pr_move rfl rfl) (.inr rfl) rfl rfl ?_
   refine D_pure (i := 2) [0, 1, 2, 3, 4] rfl kr rfl (pr_add (na_i64 (a := 4) (b := i) sd) rfl rfl rfl) (.inr rfl) rfl rfl ?_
   refine D_pure (i := 3) [0, 1, 2, 3, 4] rfl kr rfl (pr_move rfl rfl) (.inr rfl) rfl rfl ?_
   refine D_pure (i := 4) [0, 1, 2, 3, 4] rfl kr rfl (pr_add (na_i64 (a := 8) (b := i) sd) rfl rfl rfl) (.inr rfl) rfl rfl ?_
   refine D_pure (i := 5) [0, 1, 2, 3, 4] rfl kr rfl (pr_move rfl rfl) (.inr rfl) rfl rfl ?_
   refine D_pure (i := 6) [0, 1, 2, 3, 4] rfl kr rfl (pr_add (na_i64 (a := 12) (b := i) sd) rfl rfl rfl) (.inr rfl) rfl rfl ?_
   refine D_pure (i := 7) [0, 1, 2, 3, 4] rfl kr rfl (pr_move rfl rfl) (.inr rfl) rfl rfl ?_
   refine D_pure (i := 8) [0, 1, 2, 3, 4] rfl kr rfl (pr_ixa (j := i) (m' := i) sd (by omega) Try.underlying90 (z := 1) kr rfl rfl rfl) (.inr rfl) rfl rfl ?_
   refine D_pure (i := 10) [0, 1, 2, 3, 4] rfl kr rfl (pr_move rfl rfl) (.inr rfl) rfl rfl ?_
   refine D_pure (i := 11) [0, 1, 2, 3, 4] rfl kr rfl (pr_add (na_i64 (a := 4) (b := i) sd) rfl rfl rfl) (.inr rfl) rfl rfl ?_
   refine D_pure (i := 12) [0, 1, 2, 3, 4] rfl kr rfl (pr_ixa (j := 4 + i) (m' := 4 + i) sd (by omega) Try.underlying90 (z := 1) kr rfl rfl rfl) (.inr rfl) rfl rfl ?_
   refine D_pure (i := 14) [0, 1, 2, 3, 4] rfl kr rfl (pr_move rfl rfl) (.inr rfl) rfl rfl ?_
   refine D_pure (i := 15) [0, 1, 2, 3, 4] rfl kr rfl (pr_add (na_i64 (a := 8) (b := i) sd) rfl rfl rfl) (.inr rfl) rfl rfl ?_
   refine D_pure (i := 16) [0, 1, 2, 3, 4] rfl kr rfl (pr_ixa (j := 8 + i) (m' := 8 + i) sd (by omega) Try.underlying90 (z := 1) kr rfl rfl rfl) (.inr rfl) rfl rfl ?_
   refine D_pure (i := 18) [0, 1, 2, 3, 4] rfl kr rfl (pr_move rfl rfl) (.inr rfl) rfl rfl ?_
   refine D_pure (i := 19) [0, 1, 2, 3, 4] rfl kr rfl (pr_add (na_i64 (a := 12) (b := i) sd) rfl rfl rfl) (.inr rfl) rfl rfl ?_
   refine D_pure (i := 20) [0, 1, 2, 3, 4] rfl kr rfl (pr_ixa (j := 12 + i) (m' := 12 + i) sd (by omega) Try.underlying90 (z := 1) kr rfl rfl rfl) (.inr rfl) rfl rfl ?_
   refine D_take (i := 9) [0, 1, 2, 3, 4] rfl kr rfl (ld_blk 0 rfl (get32 sd) Try.underlying63 rfl rfl rfl) rfl rfl rfl ?_
   refine D_take (i := 13) [0, 1, 2, 3, 4] rfl kr rfl (ld_blk 0 rfl (get32 sd) Try.underlying63 rfl rfl rfl) rfl rfl rfl ?_
   refine D_take (i := 17) [0, 1, 2, 3, 4] rfl kr rfl (ld_blk 0 rfl (get32 sd) Try.underlying63 rfl rfl rfl) rfl rfl rfl ?_
   refine D_take (i := 21) [0, 1, 2, 3, 4] rfl kr rfl (ld_blk 0 rfl (get32 sd) Try.underlying63 rfl rfl rfl) rfl rfl rfl ?_
   refine D_one 22 _ rfl kr rfl (op_cn (fun w hw => quarter_f (ath (colr (crounds (cstB key ctr nonce 3) k) i) i) (ath (colr (crounds (cstB key ctr nonce 3) k) i) (4 + i)) (ath (colr (crounds (cstB key ctr nonce 3) k) i) (8 + i)) (ath (colr (crounds (cstB key ctr nonce 3) k) i) (12 + i)) w (hok_nil w) ) (enters_of Try.func64 kr rfl) rfl rfl rfl rfl rfl (fun t10 q11 => ?_))
   refine D_on [0, 1, 2, 3, 4] rfl ?_
   refine D_pure (i := 23) [0, 1, 2, 3, 4] rfl kr rfl (pr_move rfl rfl) (.inr rfl) rfl rfl ?_
   refine D_pure (i := 24) [0, 1, 2, 3, 4] rfl kr rfl (pr_ext (vs := [(b32 (qa (ath (colr (crounds (cstB key ctr nonce 3) k) i) i) (ath (colr (crounds (cstB key ctr nonce 3) k) i) (4 + i)) (ath (colr (crounds (cstB key ctr nonce 3) k) i) (8 + i)) (ath (colr (crounds (cstB key ctr nonce 3) k) i) (12 + i)))), (b32 (qb (ath (colr (crounds (cstB key ctr nonce 3) k) i) i) (ath (colr (crounds (cstB key ctr nonce 3) k) i) (4 + i)) (ath (colr (crounds (cstB key ctr nonce 3) k) i) (8 + i)) (ath (colr (crounds (cstB key ctr nonce 3) k) i) (12 + i)))), (b32 (qc (ath (colr (crounds (cstB key ctr nonce 3) k) i) i) (ath (colr (crounds (cstB key ctr nonce 3) k) i) (4 + i)) (ath (colr (crounds (cstB key ctr nonce 3) k) i) (8 + i)) (ath (colr (crounds (cstB key ctr nonce 3) k) i) (12 + i)))), (b32 (qd (ath (colr (crounds (cstB key ctr nonce 3) k) i) i) (ath (colr (crounds (cstB key ctr nonce 3) k) i) (4 + i)) (ath (colr (crounds (cstB key ctr nonce 3) k) i) (8 + i)) (ath (colr (crounds (cstB key ctr nonce 3) k) i) (12 + i))))]) rfl rfl rfl) (.inr rfl) rfl rfl ?_
   refine D_pure (i := 25) [0, 1, 2, 3, 4] rfl kr rfl (pr_ext (vs := [(b32 (qa (ath (colr (crounds (cstB key ctr nonce 3) k) i) i) (ath (colr (crounds (cstB key ctr nonce 3) k) i) (4 + i)) (ath (colr (crounds (cstB key ctr nonce 3) k) i) (8 + i)) (ath (colr (crounds (cstB key ctr nonce 3) k) i) (12 + i)))), (b32 (qb (ath (colr (crounds (cstB key ctr nonce 3) k) i) i) (ath (colr (crounds (cstB key ctr nonce 3) k) i) (4 + i)) (ath (colr (crounds (cstB key ctr nonce 3) k) i) (8 + i)) (ath (colr (crounds (cstB key ctr nonce 3) k) i) (12 + i)))), (b32 (qc (ath (colr (crounds (cstB key ctr nonce 3) k) i) i) (ath (colr (crounds (cstB key ctr nonce 3) k) i) (4 + i)) (ath (colr (crounds (cstB key ctr nonce 3) k) i) (8 + i)) (ath (colr (crounds (cstB key ctr nonce 3) k) i) (12 + i)))), (b32 (qd (ath (colr (crounds (cstB key ctr nonce 3) k) i) i) (ath (colr (crounds (cstB key ctr nonce 3) k) i) (4 + i)) (ath (colr (crounds (cstB key ctr nonce 3) k) i) (8 + i)) (ath (colr (crounds (cstB key ctr nonce 3) k) i) (12 + i))))]) rfl rfl rfl) (.inr rfl) rfl rfl ?_
   refine D_pure (i := 26) [0, 1, 2, 3, 4] rfl kr rfl (pr_ext (vs := [(b32 (qa (ath (colr (crounds (cstB key ctr nonce 3) k) i) i) (ath (colr (crounds (cstB key ctr nonce 3) k) i) (4 + i)) (ath (colr (crounds (cstB key ctr nonce 3) k) i) (8 + i)) (ath (colr (crounds (cstB key ctr nonce 3) k) i) (12 + i)))), (b32 (qb (ath (colr (crounds (cstB key ctr nonce 3) k) i) i) (ath (colr (crounds (cstB key ctr nonce 3) k) i) (4 + i)) (ath (colr (crounds (cstB key ctr nonce 3) k) i) (8 + i)) (ath (colr (crounds (cstB key ctr nonce 3) k) i) (12 + i)))), (b32 (qc (ath (colr (crounds (cstB key ctr nonce 3) k) i) i) (ath (colr (crounds (cstB key ctr nonce 3) k) i) (4 + i)) (ath (colr (crounds (cstB key ctr nonce 3) k) i) (8 + i)) (ath (colr (crounds (cstB key ctr nonce 3) k) i) (12 + i)))), (b32 (qd (ath (colr (crounds (cstB key ctr nonce 3) k) i) i) (ath (colr (crounds (cstB key ctr nonce 3) k) i) (4 + i)) (ath (colr (crounds (cstB key ctr nonce 3) k) i) (8 + i)) (ath (colr (crounds (cstB key ctr nonce 3) k) i) (12 + i))))]) rfl rfl rfl) (.inr rfl) rfl rfl ?_
   refine D_pure (i := 27) [0, 1, 2, 3, 4] rfl kr rfl (pr_ext (vs := [(b32 (qa (ath (colr (crounds (cstB key ctr nonce 3) k) i) i) (ath (colr (crounds (cstB key ctr nonce 3) k) i) (4 + i)) (ath (colr (crounds (cstB key ctr nonce 3) k) i) (8 + i)) (ath (colr (crounds (cstB key ctr nonce 3) k) i) (12 + i)))), (b32 (qb (ath (colr (crounds (cstB key ctr nonce 3) k) i) i) (ath (colr (crounds (cstB key ctr nonce 3) k) i) (4 + i)) (ath (colr (crounds (cstB key ctr nonce 3) k) i) (8 + i)) (ath (colr (crounds (cstB key ctr nonce 3) k) i) (12 + i)))), (b32 (qc (ath (colr (crounds (cstB key ctr nonce 3) k) i) i) (ath (colr (crounds (cstB key ctr nonce 3) k) i) (4 + i)) (ath (colr (crounds (cstB key ctr nonce 3) k) i) (8 + i)) (ath (colr (crounds (cstB key ctr nonce 3) k) i) (12 + i)))), (b32 (qd (ath (colr (crounds (cstB key ctr nonce 3) k) i) i) (ath (colr (crounds (cstB key ctr nonce 3) k) i) (4 + i)) (ath (colr (crounds (cstB key ctr nonce 3) k) i) (8 + i)) (ath (colr (crounds (cstB key ctr nonce 3) k) i) (12 + i))))]) rfl rfl rfl) (.inr rfl) rfl rfl ?_
   refine D_pure (i := 28) [0, 1, 2, 3, 4] rfl kr rfl (pr_ixa (j := i) (m' := i) sd (by omega) Try.underlying90 (z := 1) kr rfl rfl rfl) (.inr rfl) rfl rfl ?_
   refine D_one 29 _ rfl kr rfl (op_store (vs := [(b32 (qa (ath (colr (crounds (cstB key ctr nonce 3) k) i) i) (ath (colr (crounds (cstB key ctr nonce 3) k) i) (4 + i)) (ath (colr (crounds (cstB key ctr nonce 3) k) i) (8 + i)) (ath (colr (crounds (cstB key ctr nonce 3) k) i) (12 + i))))]) (cs' := ((List.set (colr (crounds (cstB key ctr nonce 3) k) i) i (qa (ath (colr (crounds (cstB key ctr nonce 3) k) i) i) (ath (colr (crounds (cstB key ctr nonce 3) k) i) (4 + i)) (ath (colr (crounds (cstB key ctr nonce 3) k) i) (8 + i)) (ath (colr (crounds (cstB key ctr nonce 3) k) i) (12 + i)))).map b32)) 0 rfl rfl kr (one_one rfl) (stl sd) (splice_map (f := b32) sd) rfl rfl rfl rfl ?_)
   refine D_past kr ?_
   refine D_pure (i := 30) [] rfl kr rfl (pr_ixa (j := 4 + i) (m' := 4 + i) sd (by omega) Try.underlying90 (z := 1) kr rfl rfl rfl) (.inl kr) rfl rfl ?_
   refine D_one 31 _ rfl kr rfl (op_store (vs := [(b32 (qb (ath (colr (crounds (cstB key ctr nonce 3) k) i) i) (ath (colr (crounds (cstB key ctr nonce 3) k) i) (4 + i)) (ath (colr (crounds (cstB key ctr nonce 3) k) i) (8 + i)) (ath (colr (crounds (cstB key ctr nonce 3) k) i) (12 + i))))]) (cs' := ((List.set (List.set (colr (crounds (cstB key ctr nonce 3) k) i) i (qa (ath (colr (crounds (cstB key ctr nonce 3) k) i) i) (ath (colr (crounds (cstB key ctr nonce 3) k) i) (4 + i)) (ath (colr (crounds (cstB key ctr nonce 3) k) i) (8 + i)) (ath (colr (crounds (cstB key ctr nonce 3) k) i) (12 + i)))) (4 + i) (qb (ath (colr (crounds (cstB key ctr nonce 3) k) i) i) (ath (colr (crounds (cstB key ctr nonce 3) k) i) (4 + i)) (ath (colr (crounds (cstB key ctr nonce 3) k) i) (8 + i)) (ath (colr (crounds (cstB key ctr nonce 3) k) i) (12 + i)))).map b32)) 0 rfl rfl kr (one_one rfl) (stl sd) (splice_map (f := b32) sd) rfl rfl rfl rfl ?_)
   refine D_past kr ?_
   refine D_pure (i := 32) [] rfl kr rfl (pr_ixa (j := 8 + i) (m' := 8 + i) sd (by omega) Try.underlying90 (z := 1) kr rfl rfl rfl) (.inl kr) rfl rfl ?_
   refine D_one 33 _ rfl kr rfl (op_store (vs := [(b32 (qc (ath (colr (crounds (cstB key ctr nonce 3) k) i) i) (ath (colr (crounds (cstB key ctr nonce 3) k) i) (4 + i)) (ath (colr (crounds (cstB key ctr nonce 3) k) i) (8 + i)) (ath (colr (crounds (cstB key ctr nonce 3) k) i) (12 + i))))]) (cs' := ((List.set (List.set (List.set (colr (crounds (cstB key ctr nonce 3) k) i) i (qa (ath (colr (crounds (cstB key ctr nonce 3) k) i) i) (ath (colr (crounds (cstB key ctr nonce 3) k) i) (4 + i)) (ath (colr (crounds (cstB key ctr nonce 3) k) i) (8 + i)) (ath (colr (crounds (cstB key ctr nonce 3) k) i) (12 + i)))) (4 + i) (qb (ath (colr (crounds (cstB key ctr nonce 3) k) i) i) (ath (colr (crounds (cstB key ctr nonce 3) k) i) (4 + i)) (ath (colr (crounds (cstB key ctr nonce 3) k) i) (8 + i)) (ath (colr (crounds (cstB key ctr nonce 3) k) i) (12 + i)))) (8 + i) (qc (ath (colr (crounds (cstB key ctr nonce 3) k) i) i) (ath (colr (crounds (cstB key ctr nonce 3) k) i) (4 + i)) (ath (colr (crounds (cstB key ctr nonce 3) k) i) (8 + i)) (ath (colr (crounds (cstB key ctr nonce 3) k) i) (12 + i)))).map b32)) 0 rfl rfl kr (one_one rfl) (stl sd) (splice_map (f := b32) sd) rfl rfl rfl rfl ?_)
   refine D_past kr ?_
   refine D_pure (i := 34) [] rfl kr rfl (pr_ixa (j := 12 + i) (m' := 12 + i) sd (by omega) Try.underlying90 (z := 1) kr rfl rfl rfl) (.inl kr) rfl rfl ?_
   refine D_one 35 _ rfl kr rfl (op_store (vs := [(b32 (qd (ath (colr (crounds (cstB key ctr nonce 3) k) i) i) (ath (colr (crounds (cstB key ctr nonce 3) k) i) (4 + i)) (ath (colr (crounds (cstB key ctr nonce 3) k) i) (8 + i)) (ath (colr (crounds (cstB key ctr nonce 3) k) i) (12 + i))))]) (cs' := ((List.set (List.set (List.set (List.set (colr (crounds (cstB key ctr nonce 3) k) i) i (qa (ath (colr (crounds (cstB key ctr nonce 3) k) i) i) (ath (colr (crounds (cstB key ctr nonce 3) k) i) (4 + i)) (ath (colr (crounds (cstB key ctr nonce 3) k) i) (8 + i)) (ath (colr (crounds (cstB key ctr nonce 3) k) i) (12 + i)))) (4 + i) (qb (ath (colr (crounds (cstB key ctr nonce 3) k) i) i) (ath (colr (crounds (cstB key ctr nonce 3) k) i) (4 + i)) (ath (colr (crounds (cstB key ctr nonce 3) k) i) (8 + i)) (ath (colr (crounds (cstB key ctr nonce 3) k) i) (12 + i)))) (8 + i) (qc (ath (colr (crounds (cstB key ctr nonce 3) k) i) i) (ath (colr (crounds (cstB key ctr nonce 3) k) i) (4 + i)) (ath (colr (crounds (cstB key ctr nonce 3) k) i) (8 + i)) (ath (colr (crounds (cstB key ctr nonce 3) k) i) (12 + i)))) (12 + i) (qd (ath (colr (crounds (cstB key ctr nonce 3) k) i) i) (ath (colr (crounds (cstB key ctr nonce 3) k) i) (4 + i)) (ath (colr (crounds (cstB key ctr nonce 3) k) i) (8 + i)) (ath (colr (crounds (cstB key ctr nonce 3) k) i) (12 + i)))).map b32)) 0 rfl rfl kr (one_one rfl) (stl sd) (splice_map (f := b32) sd) rfl rfl rfl rfl ?_)
   refine D_past kr ?_
   refine D_done kr ?_
   refine T_reg hF rfl ?_
   refine lo rfl (pr_add (na_i64 (a := i) (b := 1) sd) rfl rfl rfl) rfl rfl ?_
   refine lm rfl rfl rfl rfl rfl ?_
   refine L_nil ?_
   refine T_as 0 _ (.blk g7 90 ((colr (crounds (cstB key ctr nonce 3) k) (i + 1)).map b32)) rfl (by rw [colr_succ, ← qr4_def]) ?_
   exact T_again (i + 1) (by first | trivial | ((try dsimp only); first | omega | (refine ⟨?_, ?_⟩ <;> omega) | (refine ⟨?_, ?_, ?_⟩ <;> omega) | (simp; done) | (simp; omega))) (by first | trivial | ((try dsimp only); first | omega | (refine ⟨?_, ?_⟩ <;> omega) | (refine ⟨?_, ?_, ?_⟩ <;> omega) | (simp; done) | (simp; omega))) (sc rfl (sc rfl (sc rfl (sc rfl (sc rfl sn))))) [0, 1, 2, 3, 4] ⟨by decide, rfl⟩
  ·
   have hc_9 := of_decide_eq_false hc_9
   refine T_exit rfl ?_
   obtain rfl : 4 = i := by omega
   refine Tsr hF rfl ?_
   refine lm rfl rfl rfl rfl rfl ?_
   refine L_nil ?_
   refine T_block ?_
   refine T_as 0 _ (.blk g7 90 ((diar (colr (crounds (cstB key ctr nonce 3) k) 4) 0).map b32)) rfl (by rw [diar_zero]) ?_
   refine T_loop (T := Nat) (fun i => i ≤ 4) (fun i => [(6, (.pointer (some ⟨g3, 0, none⟩))), (7, (.pointer (some ⟨g6, 0, none⟩))), (8, (.pointer (some ⟨g7, 0, none⟩))), (21, (.int .i64 ((k : Nat) : Int))), (59, (.int .i64 ((i : Nat) : Int)))]) (fun i => [.blk g7 90 ((diar (colr (crounds (cstB key ctr nonce 3) k) 4) i).map b32), .blk g6 90 ((cstB key ctr nonce 3).map b32), .blk g3 84 ((List.replicate 64 0#8).map b8), .blk g2 38 (nonce.map b8), .blk g1 22 (key.map b8)]) (fun i => 4 - i) 0 (by first | trivial | ((try dsimp only); first | omega | (refine ⟨?_, ?_⟩ <;> omega) | (refine ⟨?_, ?_, ?_⟩ <;> omega) | (simp; done) | (simp; omega))) (sc rfl (sc rfl (sc rfl (sc rfl (sc rfl sn))))) [0, 1, 2, 3, 4] ⟨by decide, rfl⟩ ?_
   rintro i hp
   have hp : i ≤ 4 := hp
   have hci := cd16 (k := i) (cc16 (k := 4) hck)
   refine T_re [(6, (.pointer (some ⟨g3, 0, none⟩))), (7, (.pointer (some ⟨g6, 0, none⟩))), (8, (.pointer (some ⟨g7, 0, none⟩))), (21, (.int .i64 ((k : Nat) : Int))), (59, (.int .i64 ((i : Nat) : Int)))] (sc rfl (sc rfl (sc rfl (sc rfl (sc rfl sn))))) ?_
   refine T_he [0, 1, 2, 3, 4] [.blk g7 90 ((diar (colr (crounds (cstB key ctr nonce 3) k) 4) i).map b32), .blk g6 90 ((cstB key ctr nonce 3).map b32), .blk g3 84 ((List.replicate 64 0#8).map b8), .blk g2 38 (nonce.map b8), .blk g1 22 (key.map b8)] ⟨by decide, rfl⟩ ?_
   refine Tsr hF rfl ?_
   refine lo rfl (pr_cmp (bo := .lss) (nc_lt (a := i) (b := 4)) rfl rfl rfl rfl) rfl rfl ?_
   refine L_nil ?_
   refine T_seq ?_
   refine T_cond (decide (i < 4)) rfl (fun hc_12 => ?_) (fun hc_12 => ?_)
   ·
    have hc_12 := of_decide_eq_true hc_12
    refine T_skip ?_
    refine T_seq ?_
    refine T_block ?_
    refine Tsr hF rfl ?_
    refine lm rfl rfl rfl rfl rfl ?_
    refine la rfl rfl rfl rfl rfl ?_
    refine L_nil ?_
    refine Tsr hF rfl ?_
    refine lm rfl rfl rfl rfl rfl ?_
    refine lo rfl (pr_add (na_i64 (a := i) (b := 1) sd) rfl rfl rfl) rfl rfl ?_
    refine lo rfl (pr_rem (a := i + 1) (b := 4) sd rfl rfl rfl) rfl rfl ?_
    refine lo rfl (pr_add (na_i64 (a := 4) (b := (i + 1) % 4) sd) rfl rfl rfl) rfl rfl ?_
    refine lm rfl rfl rfl rfl rfl ?_
    refine lo rfl (pr_add (na_i64 (a := i) (b := 2) sd) rfl rfl rfl) rfl rfl ?_
    refine lo rfl (pr_rem (a := i + 2) (b := 4) sd rfl rfl rfl) rfl rfl ?_
    refine lo rfl (pr_add (na_i64 (a := 8) (b := (i + 2) % 4) sd) rfl rfl rfl) rfl rfl ?_
    refine lm rfl rfl rfl rfl rfl ?_
    refine lo rfl (pr_add (na_i64 (a := i) (b := 3) sd) rfl rfl rfl) rfl rfl ?_
    refine lo rfl (pr_rem (a := i + 3) (b := 4) sd rfl rfl rfl) rfl rfl ?_
    refine lo rfl (pr_add (na_i64 (a := 12) (b := (i + 3) % 4) sd) rfl rfl rfl) rfl rfl ?_
    refine la rfl rfl rfl rfl rfl ?_
    refine la rfl rfl rfl rfl rfl ?_
    refine la rfl rfl rfl rfl rfl ?_
    refine L_nil ?_
    refine T_regD [.blk g7 90 ((diar (colr (crounds (cstB key ctr nonce 3) k) 4) i).map b32), .blk g6 90 ((cstB key ctr nonce 3).map b32), .blk g3 84 ((List.replicate 64 0#8).map b8), .blk g2 38 (nonce.map b8), .blk g1 22 (key.map b8)] 23 30 #[false, false, false, false, false, false, false, false, false, false, false, false, false, false, false, false, false, false, false, false, false, false, false, false, false, false, false, false, false, false] hF kr kr ?_
    refine D_pure (i := 0) [0, 1, 2, 3, 4] rfl kr rfl (pr_move rfl rfl) (.inr rfl) rfl rfl ?_
    refine D_pure (i := 1) [0, 1, 2, 3, 4] rfl kr rfl (pr_move rfl rfl) (.inr rfl) rfl rfl ?_
    refine D_pure (i := 2) [0, 1, 2, 3, 4] rfl kr rfl (pr_move rfl rfl) (.inr rfl) rfl rfl ?_
    refine D_pure (i := 3) [0, 1, 2, 3, 4] rfl kr rfl (pr_move rfl rfl) (.inr rfl) rfl rfl ?_
    refine D_pure (i := 4) [0, 1, 2, 3, 4] rfl kr rfl (pr_move rfl rfl) (.inr rfl) rfl rfl ?_
    refine D_pure (i := 5) [0, 1, 2, 3, 4] rfl kr rfl (pr_ixa (j := i) (m' := i) sd (by omega) Try.underlying90 (z := 1) kr rfl rfl rfl) (.inr rfl) rfl rfl ?_
    refine D_pure (i := 7) [0, 1, 2, 3, 4] rfl kr rfl (pr_move rfl rfl) (.inr rfl) rfl rfl ?_
    refine D_pure (i := 8) [0, 1, 2, 3, 4] rfl kr rfl (pr_ixa (j := 4 + ((i + 1) % 4)) (m' := 4 + ((i + 1) % 4)) sd (by omega) Try.underlying90 (z := 1) kr rfl rfl rfl) (.inr rfl) rfl rfl ?_
    refine D_pure (i := 10) [0, 1, 2, 3, 4] rfl kr rfl (pr_move rfl rfl) (.inr rfl) rfl rfl ?_
    refine D_pure (i := 11) [0, 1, 2, 3, 4] rfl kr rfl (pr_ixa (j := 8 + ((i + 2) % 4)) (m' := 8 + ((i + 2) % 4)) sd (by omega) Try.underlying90 (z := 1) kr rfl rfl rfl) (.inr rfl) rfl rfl ?_
    refine D_pure (i := 13) [0, 1, 2, 3, 4] rfl kr rfl (pr_move rfl rfl) (.inr rfl) rfl rfl ?_
    refine D_pure (i := 14) [0, 1, 2, 3, 4] rfl kr rfl (pr_ixa (j := 12 + ((i + 3) % 4)) (m' := 12 + ((i + 3) % 4)) sd (by omega) Try.underlying90 (z := 1) kr rfl rfl rfl) (.inr rfl) rfl rfl ?_
    refine D_take (i := 6) [0, 1, 2, 3, 4] rfl kr rfl (ld_blk 0 rfl (get32 sd) Try.underlying63 rfl rfl rfl) rfl rfl rfl ?_
    refine D_take (i := 9) [0, 1, 2, 3, 4] rfl kr rfl (ld_blk 0 rfl (get32 sd) Try.underlying63 rfl rfl rfl) rfl rfl rfl ?_
    refine D_take (i := 12) [0, 1, 2, 3, 4] rfl kr rfl (ld_blk 0 rfl (get32 sd) Try.underlying63 rfl rfl rfl) rfl rfl rfl ?_
    refine D_take (i := 15) [0, 1, 2, 3, 4] rfl kr rfl (ld_blk 0 rfl (get32 sd) Try.underlying63 rfl rfl rfl) rfl rfl rfl ?_
    refine D_one 16 _ rfl kr rfl (op_cn (fun w hw => quarter_f (ath (diar (colr (crounds (cstB key ctr nonce 3) k) 4) i) i) (ath (diar (colr (crounds (cstB key ctr nonce 3) k) 4) i) (4 + ((i + 1) % 4))) (ath (diar (colr (crounds (cstB key ctr nonce 3) k) 4) i) (8 + ((i + 2) % 4))) (ath (diar (colr (crounds (cstB key ctr nonce 3) k) 4) i) (12 + ((i + 3) % 4))) w (hok_nil w) ) (enters_of Try.func64 kr rfl) rfl rfl rfl rfl rfl (fun t13 q14 => ?_))
    refine D_on [0, 1, 2, 3, 4] rfl ?_
    refine D_pure (i := 17) [0, 1, 2, 3, 4] rfl kr rfl (pr_move rfl rfl) (.inr rfl) rfl rfl ?_
    refine D_pure (i := 18) [0, 1, 2, 3, 4] rfl kr rfl (pr_ext (vs := [(b32 (qa (ath (diar (colr (crounds (cstB key ctr nonce 3) k) 4) i) i) (ath (diar (colr (crounds (cstB key ctr nonce 3) k) 4) i) (4 + ((i + 1) % 4))) (ath (diar (colr (crounds (cstB key ctr nonce 3) k) 4) i) (8 + ((i + 2) % 4))) (ath (diar (colr (crounds (cstB key ctr nonce 3) k) 4) i) (12 + ((i + 3) % 4))))), (b32 (qb (ath (diar (colr (crounds (cstB key ctr nonce 3) k) 4) i) i) (ath (diar (colr (crounds (cstB key ctr nonce 3) k) 4) i) (4 + ((i + 1) % 4))) (ath (diar (colr (crounds (cstB key ctr nonce 3) k) 4) i) (8 + ((i + 2) % 4))) (ath (diar (colr (crounds (cstB key ctr nonce 3) k) 4) i) (12 + ((i + 3) % 4))))), (b32 (qc (ath (diar (colr (crounds (cstB key ctr nonce 3) k) 4) i) i) (ath (diar (colr (crounds (cstB key ctr nonce 3) k) 4) i) (4 + ((i + 1) % 4))) (ath (diar (colr (crounds (cstB key ctr nonce 3) k) 4) i) (8 + ((i + 2) % 4))) (ath (diar (colr (crounds (cstB key ctr nonce 3) k) 4) i) (12 + ((i + 3) % 4))))), (b32 (qd (ath (diar (colr (crounds (cstB key ctr nonce 3) k) 4) i) i) (ath (diar (colr (crounds (cstB key ctr nonce 3) k) 4) i) (4 + ((i + 1) % 4))) (ath (diar (colr (crounds (cstB key ctr nonce 3) k) 4) i) (8 + ((i + 2) % 4))) (ath (diar (colr (crounds (cstB key ctr nonce 3) k) 4) i) (12 + ((i + 3) % 4)))))]) rfl rfl rfl) (.inr rfl) rfl rfl ?_
    refine D_pure (i := 19) [0, 1, 2, 3, 4] rfl kr rfl (pr_ext (vs := [(b32 (qa (ath (diar (colr (crounds (cstB key ctr nonce 3) k) 4) i) i) (ath (diar (colr (crounds (cstB key ctr nonce 3) k) 4) i) (4 + ((i + 1) % 4))) (ath (diar (colr (crounds (cstB key ctr nonce 3) k) 4) i) (8 + ((i + 2) % 4))) (ath (diar (colr (crounds (cstB key ctr nonce 3) k) 4) i) (12 + ((i + 3) % 4))))), (b32 (qb (ath (diar (colr (crounds (cstB key ctr nonce 3) k) 4) i) i) (ath (diar (colr (crounds (cstB key ctr nonce 3) k) 4) i) (4 + ((i + 1) % 4))) (ath (diar (colr (crounds (cstB key ctr nonce 3) k) 4) i) (8 + ((i + 2) % 4))) (ath (diar (colr (crounds (cstB key ctr nonce 3) k) 4) i) (12 + ((i + 3) % 4))))), (b32 (qc (ath (diar (colr (crounds (cstB key ctr nonce 3) k) 4) i) i) (ath (diar (colr (crounds (cstB key ctr nonce 3) k) 4) i) (4 + ((i + 1) % 4))) (ath (diar (colr (crounds (cstB key ctr nonce 3) k) 4) i) (8 + ((i + 2) % 4))) (ath (diar (colr (crounds (cstB key ctr nonce 3) k) 4) i) (12 + ((i + 3) % 4))))), (b32 (qd (ath (diar (colr (crounds (cstB key ctr nonce 3) k) 4) i) i) (ath (diar (colr (crounds (cstB key ctr nonce 3) k) 4) i) (4 + ((i + 1) % 4))) (ath (diar (colr (crounds (cstB key ctr nonce 3) k) 4) i) (8 + ((i + 2) % 4))) (ath (diar (colr (crounds (cstB key ctr nonce 3) k) 4) i) (12 + ((i + 3) % 4)))))]) rfl rfl rfl) (.inr rfl) rfl rfl ?_
    refine D_pure (i := 20) [0, 1, 2, 3, 4] rfl kr rfl (pr_ext (vs := [(b32 (qa (ath (diar (colr (crounds (cstB key ctr nonce 3) k) 4) i) i) (ath (diar (colr (crounds (cstB key ctr nonce 3) k) 4) i) (4 + ((i + 1) % 4))) (ath (diar (colr (crounds (cstB key ctr nonce 3) k) 4) i) (8 + ((i + 2) % 4))) (ath (diar (colr (crounds (cstB key ctr nonce 3) k) 4) i) (12 + ((i + 3) % 4))))), (b32 (qb (ath (diar (colr (crounds (cstB key ctr nonce 3) k) 4) i) i) (ath (diar (colr (crounds (cstB key ctr nonce 3) k) 4) i) (4 + ((i + 1) % 4))) (ath (diar (colr (crounds (cstB key ctr nonce 3) k) 4) i) (8 + ((i + 2) % 4))) (ath (diar (colr (crounds (cstB key ctr nonce 3) k) 4) i) (12 + ((i + 3) % 4))))), (b32 (qc (ath (diar (colr (crounds (cstB key ctr nonce 3) k) 4) i) i) (ath (diar (colr (crounds (cstB key ctr nonce 3) k) 4) i) (4 + ((i + 1) % 4))) (ath (diar (colr (crounds (cstB key ctr nonce 3) k) 4) i) (8 + ((i + 2) % 4))) (ath (diar (colr (crounds (cstB key ctr nonce 3) k) 4) i) (12 + ((i + 3) % 4))))), (b32 (qd (ath (diar (colr (crounds (cstB key ctr nonce 3) k) 4) i) i) (ath (diar (colr (crounds (cstB key ctr nonce 3) k) 4) i) (4 + ((i + 1) % 4))) (ath (diar (colr (crounds (cstB key ctr nonce 3) k) 4) i) (8 + ((i + 2) % 4))) (ath (diar (colr (crounds (cstB key ctr nonce 3) k) 4) i) (12 + ((i + 3) % 4)))))]) rfl rfl rfl) (.inr rfl) rfl rfl ?_
    refine D_pure (i := 21) [0, 1, 2, 3, 4] rfl kr rfl (pr_ext (vs := [(b32 (qa (ath (diar (colr (crounds (cstB key ctr nonce 3) k) 4) i) i) (ath (diar (colr (crounds (cstB key ctr nonce 3) k) 4) i) (4 + ((i + 1) % 4))) (ath (diar (colr (crounds (cstB key ctr nonce 3) k) 4) i) (8 + ((i + 2) % 4))) (ath (diar (colr (crounds (cstB key ctr nonce 3) k) 4) i) (12 + ((i + 3) % 4))))), (b32 (qb (ath (diar (colr (crounds (cstB key ctr nonce 3) k) 4) i) i) (ath (diar (colr (crounds (cstB key ctr nonce 3) k) 4) i) (4 + ((i + 1) % 4))) (ath (diar (colr (crounds (cstB key ctr nonce 3) k) 4) i) (8 + ((i + 2) % 4))) (ath (diar (colr (crounds (cstB key ctr nonce 3) k) 4) i) (12 + ((i + 3) % 4))))), (b32 (qc (ath (diar (colr (crounds (cstB key ctr nonce 3) k) 4) i) i) (ath (diar (colr (crounds (cstB key ctr nonce 3) k) 4) i) (4 + ((i + 1) % 4))) (ath (diar (colr (crounds (cstB key ctr nonce 3) k) 4) i) (8 + ((i + 2) % 4))) (ath (diar (colr (crounds (cstB key ctr nonce 3) k) 4) i) (12 + ((i + 3) % 4))))), (b32 (qd (ath (diar (colr (crounds (cstB key ctr nonce 3) k) 4) i) i) (ath (diar (colr (crounds (cstB key ctr nonce 3) k) 4) i) (4 + ((i + 1) % 4))) (ath (diar (colr (crounds (cstB key ctr nonce 3) k) 4) i) (8 + ((i + 2) % 4))) (ath (diar (colr (crounds (cstB key ctr nonce 3) k) 4) i) (12 + ((i + 3) % 4)))))]) rfl rfl rfl) (.inr rfl) rfl rfl ?_
    refine D_pure (i := 22) [0, 1, 2, 3, 4] rfl kr rfl (pr_ixa (j := i) (m' := i) sd (by omega) Try.underlying90 (z := 1) kr rfl rfl rfl) (.inr rfl) rfl rfl ?_
    refine D_one 23 _ rfl kr rfl (op_store (vs := [(b32 (qa (ath (diar (colr (crounds (cstB key ctr nonce 3) k) 4) i) i) (ath (diar (colr (crounds (cstB key ctr nonce 3) k) 4) i) (4 + ((i + 1) % 4))) (ath (diar (colr (crounds (cstB key ctr nonce 3) k) 4) i) (8 + ((i + 2) % 4))) (ath (diar (colr (crounds (cstB key ctr nonce 3) k) 4) i) (12 + ((i + 3) % 4)))))]) (cs' := ((List.set (diar (colr (crounds (cstB key ctr nonce 3) k) 4) i) i (qa (ath (diar (colr (crounds (cstB key ctr nonce 3) k) 4) i) i) (ath (diar (colr (crounds (cstB key ctr nonce 3) k) 4) i) (4 + ((i + 1) % 4))) (ath (diar (colr (crounds (cstB key ctr nonce 3) k) 4) i) (8 + ((i + 2) % 4))) (ath (diar (colr (crounds (cstB key ctr nonce 3) k) 4) i) (12 + ((i + 3) % 4))))).map b32)) 0 rfl rfl kr (one_one rfl) (stl sd) (splice_map (f := b32) sd) rfl rfl rfl rfl ?_)
    refine D_past kr ?_
    refine D_pure (i := 24) [] rfl kr rfl (pr_ixa (j := 4 + ((i + 1) % 4)) (m' := 4 + ((i + 1) % 4)) sd (by omega) Try.underlying90 (z := 1) kr rfl rfl rfl) (.inl kr) rfl rfl ?_
    refine D_one 25 _ rfl kr rfl (op_store (vs := [(b32 (qb (ath (diar (colr (crounds (cstB key ctr nonce 3) k) 4) i) i) (ath (diar (colr (crounds (cstB key ctr nonce 3) k) 4) i) (4 + ((i + 1) % 4))) (ath (diar (colr (crounds (cstB key ctr nonce 3) k) 4) i) (8 + ((i + 2) % 4))) (ath (diar (colr (crounds (cstB key ctr nonce 3) k) 4) i) (12 + ((i + 3) % 4)))))]) (cs' := ((List.set (List.set (diar (colr (crounds (cstB key ctr nonce 3) k) 4) i) i (qa (ath (diar (colr (crounds (cstB key ctr nonce 3) k) 4) i) i) (ath (diar (colr (crounds (cstB key ctr nonce 3) k) 4) i) (4 + ((i + 1) % 4))) (ath (diar (colr (crounds (cstB key ctr nonce 3) k) 4) i) (8 + ((i + 2) % 4))) (ath (diar (colr (crounds (cstB key ctr nonce 3) k) 4) i) (12 + ((i + 3) % 4))))) (4 + ((i + 1) % 4)) (qb (ath (diar (colr (crounds (cstB key ctr nonce 3) k) 4) i) i) (ath (diar (colr (crounds (cstB key ctr nonce 3) k) 4) i) (4 + ((i + 1) % 4))) (ath (diar (colr (crounds (cstB key ctr nonce 3) k) 4) i) (8 + ((i + 2) % 4))) (ath (diar (colr (crounds (cstB key ctr nonce 3) k) 4) i) (12 + ((i + 3) % 4))))).map b32)) 0 rfl rfl kr (one_one rfl) (stl sd) (splice_map (f := b32) sd) rfl rfl rfl rfl ?_)
    refine D_past kr ?_
    refine D_pure (i := 26) [] rfl kr rfl (pr_ixa (j := 8 + ((i + 2) % 4)) (m' := 8 + ((i + 2) % 4)) sd (by omega) Try.underlying90 (z := 1) kr rfl rfl rfl) (.inl kr) rfl rfl ?_
    refine D_one 27 _ rfl kr rfl (op_store (vs := [(b32 (qc (ath (diar (colr (crounds (cstB key ctr nonce 3) k) 4) i) i) (ath (diar (colr (crounds (cstB key ctr nonce 3) k) 4) i) (4 + ((i + 1) % 4))) (ath (diar (colr (crounds (cstB key ctr nonce 3) k) 4) i) (8 + ((i + 2) % 4))) (ath (diar (colr (crounds (cstB key ctr nonce 3) k) 4) i) (12 + ((i + 3) % 4)))))]) (cs' := ((List.set (List.set (List.set (diar (colr (crounds (cstB key ctr nonce 3) k) 4) i) i (qa (ath (diar (colr (crounds (cstB key ctr nonce 3) k) 4) i) i) (ath (diar (colr (crounds (cstB key ctr nonce 3) k) 4) i) (4 + ((i + 1) % 4))) (ath (diar (colr (crounds (cstB key ctr nonce 3) k) 4) i) (8 + ((i + 2) % 4))) (ath (diar (colr (crounds (cstB key ctr nonce 3) k) 4) i) (12 + ((i + 3) % 4))))) (4 + ((i + 1) % 4)) (qb (ath (diar (colr (crounds (cstB key ctr nonce 3) k) 4) i) i) (ath (diar (colr (crounds (cstB key ctr nonce 3) k) 4) i) (4 + ((i + 1) % 4))) (ath (diar (colr (crounds (cstB key ctr nonce 3) k) 4) i) (8 + ((i + 2) % 4))) (ath (diar (colr (crounds (cstB key ctr nonce 3) k) 4) i) (12 + ((i + 3) % 4))))) (8 + ((i + 2) % 4)) (qc (ath (diar (colr (crounds (cstB key ctr nonce 3) k) 4) i) i) (ath (diar (colr (crounds (cstB key ctr nonce 3) k) 4) i) (4 + ((i + 1) % 4))) (ath (diar (colr (crounds (cstB key ctr nonce 3) k) 4) i) (8 + ((i + 2) % 4))) (ath (diar (colr (crounds (cstB key ctr nonce 3) k) 4) i) (12 + ((i + 3) % 4))))).map b32)) 0 rfl rfl kr (one_one rfl) (stl sd) (splice_map (f := b32) sd) rfl rfl rfl rfl ?_)
    refine D_past kr ?_
    refine D_pure (i := 28) [] rfl kr rfl (pr_ixa (j := 12 + ((i + 3) % 4)) (m' := 12 + ((i + 3) % 4)) sd (by omega) Try.underlying90 (z := 1) kr rfl rfl rfl) (.inl kr) rfl rfl ?_
    refine D_one 29 _ rfl kr rfl (op_store (vs := [(b32 (qd (ath (diar (colr (crounds (cstB key ctr nonce 3) k) 4) i) i) (ath (diar (colr (crounds (cstB key ctr nonce 3) k) 4) i) (4 + ((i + 1) % 4))) (ath (diar (colr (crounds (cstB key ctr nonce 3) k) 4) i) (8 + ((i + 2) % 4))) (ath (diar (colr (crounds (cstB key ctr nonce 3) k) 4) i) (12 + ((i + 3) % 4)))))]) (cs' := ((List.set (List.set (List.set (List.set (diar (colr (crounds (cstB key ctr nonce 3) k) 4) i) i (qa (ath (diar (colr (crounds (cstB key ctr nonce 3) k) 4) i) i) (ath (diar (colr (crounds (cstB key ctr nonce 3) k) 4) i) (4 + ((i + 1) % 4))) (ath (diar (colr (crounds (cstB key ctr nonce 3) k) 4) i) (8 + ((i + 2) % 4))) (ath (diar (colr (crounds (cstB key ctr nonce 3) k) 4) i) (12 + ((i + 3) % 4))))) (4 + ((i + 1) % 4)) (qb (ath (diar (colr (crounds (cstB key ctr nonce 3) k) 4) i) i) (ath (diar (colr (crounds (cstB key ctr nonce 3) k) 4) i) (4 + ((i + 1) % 4))) (ath (diar (colr (crounds (cstB key ctr nonce 3) k) 4) i) (8 + ((i + 2) % 4))) (ath (diar (colr (crounds (cstB key ctr nonce 3) k) 4) i) (12 + ((i + 3) % 4))))) (8 + ((i + 2) % 4)) (qc (ath (diar (colr (crounds (cstB key ctr nonce 3) k) 4) i) i) (ath (diar (colr (crounds (cstB key ctr nonce 3) k) 4) i) (4 + ((i + 1) % 4))) (ath (diar (colr (crounds (cstB key ctr nonce 3) k) 4) i) (8 + ((i + 2) % 4))) (ath (diar (colr (crounds (cstB key ctr nonce 3) k) 4) i) (12 + ((i + 3) % 4))))) (12 + ((i + 3) % 4)) (qd (ath (diar (colr (crounds (cstB key ctr nonce 3) k) 4) i) i) (ath (diar (colr (crounds (cstB key ctr nonce 3) k) 4) i) (4 + ((i + 1) % 4))) (ath (diar (colr (crounds (cstB key ctr nonce 3) k) 4) i) (8 + ((i + 2) % 4))) (ath (diar (colr (crounds (cstB key ctr nonce 3) k) 4) i) (12 + ((i + 3) % 4))))).map b32)) 0 rfl rfl kr (one_one rfl) (stl sd) (splice_map (f := b32) sd) rfl rfl rfl rfl ?_)
    refine D_past kr ?_
    refine D_done kr ?_
    refine T_reg hF rfl ?_
    refine lo rfl (pr_add (na_i64 (a := i) (b := 1) sd) rfl rfl rfl) rfl rfl ?_
    refine lm rfl rfl rfl rfl rfl ?_
    refine L_nil ?_
    refine T_as 0 _ (.blk g7 90 ((diar (colr (crounds (cstB key ctr nonce 3) k) 4) (i + 1)).map b32)) rfl (by rw [diar_succ, ← qr4_def]) ?_
    exact T_again (i + 1) (by first | trivial | ((try dsimp only); first | omega | (refine ⟨?_, ?_⟩ <;> omega) | (refine ⟨?_, ?_, ?_⟩ <;> omega) | (simp; done) | (simp; omega))) (by first | trivial | ((try dsimp only); first | omega | (refine ⟨?_, ?_⟩ <;> omega) | (refine ⟨?_, ?_, ?_⟩ <;> omega) | (simp; done) | (simp; omega))) (sc rfl (sc rfl (sc rfl (sc rfl (sc rfl sn))))) [0, 1, 2, 3, 4] ⟨by decide, rfl⟩
   ·
    have hc_12 := of_decide_eq_false hc_12
    refine T_exit rfl ?_
    obtain rfl : 4 = i := by omega
    refine T_reg hF rfl ?_
    refine lo rfl (pr_add (na_i64 (a := k) (b := 1) sd) rfl rfl rfl) rfl rfl ?_
    refine lm rfl rfl rfl rfl rfl ?_
    refine L_nil ?_
    refine T_as 0 _ (.blk g7 90 ((crounds (cstB key ctr nonce 3) (k + 1)).map b32)) rfl (by rw [crounds_succ]) ?_
    exact T_again (k + 1) (by first | trivial | ((try dsimp only); first | omega | (refine ⟨?_, ?_⟩ <;> omega) | (refine ⟨?_, ?_, ?_⟩ <;> omega) | (simp; done) | (simp; omega))) (by first | trivial | ((try dsimp only); first | omega | (refine ⟨?_, ?_⟩ <;> omega) | (refine ⟨?_, ?_, ?_⟩ <;> omega) | (simp; done) | (simp; omega))) (sc rfl (sc rfl (sc rfl (sc rfl sn)))) [0, 1, 2, 3, 4] ⟨by decide, rfl⟩
 ·
  have hc_8 := of_decide_eq_false hc_8
  refine T_exit rfl ?_
  obtain rfl : 10 = k := by omega
  refine Tsr hF rfl ?_
  refine L_op rfl (op_make (z := (b8 (0#8))) (n := 0) (c := 64) Try.underlying25 (bytes := 1) kr rfl sd sd sd rfl rfl rfl rfl rfl (fun g15 => ?_))
  refine T_as 0 _ (.blk g15 5 ((List.replicate 64 0#8).map b8)) rfl (by rw [List.map_replicate]) ?_
  refine la rfl rfl rfl rfl rfl ?_
  refine L_nil ?_
  refine T_seq ?_
  refine Tsr hF rfl ?_
  refine lm rfl rfl rfl rfl rfl ?_
  refine L_nil ?_
  refine T_block ?_
  refine T_slot 14 (.slice (some ⟨g15, 0, none⟩) 0 64) (.slice (some ⟨g15, 0, none⟩) (4 * 0) 64) rfl (by first | rfl | (congr 2; omega) | (simp; omega)) ?_
  refine T_rowb 0 (zs := ((outb (crounds (cstB key ctr nonce 3) 10) (cstB key ctr nonce 3) 0).map b8)) 1 (4 * 0) 64 rfl sd sd sd (by rw [outb_zero]; rfl) ?_
  refine T_loop (T := Nat × Option Addr × Nat) (fun ⟨i, A1, c1⟩ => i ≤ 16) (fun ⟨i, A1, c1⟩ => [(6, (.pointer (some ⟨g3, 0, none⟩))), (7, (.pointer (some ⟨g6, 0, none⟩))), (8, (.pointer (some ⟨g7, 0, none⟩))), (14, (.slice A1 (4 * i) c1)), (103, (.int .i64 ((i : Nat) : Int)))]) (fun ⟨i, A1, c1⟩ => [.row (.slice A1 (4 * i) c1) 5 1 (4 * i) ((outb (crounds (cstB key ctr nonce 3) 10) (cstB key ctr nonce 3) i).map b8), .blk g7 90 ((crounds (cstB key ctr nonce 3) 10).map b32), .blk g6 90 ((cstB key ctr nonce 3).map b32), .blk g3 84 ((List.replicate 64 0#8).map b8), .blk g2 38 (nonce.map b8), .blk g1 22 (key.map b8)]) (fun ⟨i, A1, c1⟩ => 16 - i) (0, some ⟨g15, 0, none⟩, 64) (by first | trivial | ((try dsimp only); first | omega | (refine ⟨?_, ?_⟩ <;> omega) | (refine ⟨?_, ?_, ?_⟩ <;> omega) | (simp; done) | (simp; omega))) (sc rfl (sc rfl (sc rfl (sc rfl (sc rfl sn))))) [0, 1, 2, 3, 4, 5] ⟨by decide, rfl⟩ ?_
  rintro ⟨i, A1, c1⟩ hp
  have hp : i ≤ 16 := hp
  have hoi := hol i
  have hc10 := hcr 10
  refine T_re [(6, (.pointer (some ⟨g3, 0, none⟩))), (7, (.pointer (some ⟨g6, 0, none⟩))), (8, (.pointer (some ⟨g7, 0, none⟩))), (14, (.slice A1 (4 * i) c1)), (103, (.int .i64 ((i : Nat) : Int)))] (sc rfl (sc rfl (sc rfl (sc rfl (sc rfl sn))))) ?_
  refine T_he [0, 1, 2, 3, 4, 5] [.row (.slice A1 (4 * i) c1) 5 1 (4 * i) ((outb (crounds (cstB key ctr nonce 3) 10) (cstB key ctr nonce 3) i).map b8), .blk g7 90 ((crounds (cstB key ctr nonce 3) 10).map b32), .blk g6 90 ((cstB key ctr nonce 3).map b32), .blk g3 84 ((List.replicate 64 0#8).map b8), .blk g2 38 (nonce.map b8), .blk g1 22 (key.map b8)] ⟨by decide, rfl⟩ ?_
  refine Tsr hF rfl ?_
  refine lo rfl (pr_cmp (bo := .lss) (nc_lt (a := i) (b := 16)) rfl rfl rfl rfl) rfl rfl ?_
  refine L_nil ?_
  refine T_seq ?_
  refine T_cond (decide (i < 16)) rfl (fun hc_16 => ?_) (fun hc_16 => ?_)
  ·
   have hc_16 := of_decide_eq_true hc_16
   refine T_skip ?_
   refine T_seq ?_
   refine T_block ?_
   refine Tsr hF rfl ?_
   refine lm rfl rfl rfl rfl rfl ?_
   refine la rfl rfl rfl rfl rfl ?_
   refine L_nil ?_
   refine T_regD [.row (.slice A1 (4 * i) c1) 5 1 (4 * i) ((outb (crounds (cstB key ctr nonce 3) 10) (cstB key ctr nonce 3) i).map b8), .blk g7 90 ((crounds (cstB key ctr nonce 3) 10).map b32), .blk g6 90 ((cstB key ctr nonce 3).map b32), .blk g3 84 ((List.replicate 64 0#8).map b8), .blk g2 38 (nonce.map b8), .blk g1 22 (key.map b8)] 9 11 #[false, false, false, false, false, false, false, false, false, false, false] hF kr kr ?_
   refine D_pure (i := 0) [0, 1, 2, 3, 4, 5] rfl kr rfl (pr_move rfl rfl) (.inr rfl) rfl rfl ?_
   refine D_pure (i := 1) [0, 1, 2, 3, 4, 5] rfl kr rfl (pr_move rfl rfl) (.inr rfl) rfl rfl ?_
   refine D_pure (i := 2) [0, 1, 2, 3, 4, 5] rfl kr rfl (pr_ixa (j := i) (m' := i) sd (by omega) Try.underlying90 (z := 1) kr rfl rfl rfl) (.inr rfl) rfl rfl ?_
   refine D_pure (i := 4) [0, 1, 2, 3, 4, 5] rfl kr rfl (pr_move rfl rfl) (.inr rfl) rfl rfl ?_
   refine D_pure (i := 5) [0, 1, 2, 3, 4, 5] rfl kr rfl (pr_ixa (j := i) (m' := i) sd (by omega) Try.underlying90 (z := 1) kr rfl rfl rfl) (.inr rfl) rfl rfl ?_
   refine D_take (i := 3) [0, 1, 2, 3, 4, 5] rfl kr rfl (ld_blk 1 rfl (get32 sd) Try.underlying63 rfl rfl rfl) rfl rfl rfl ?_
   refine D_take (i := 6) [0, 1, 2, 3, 4, 5] rfl kr rfl (ld_blk 2 rfl (get32 sd) Try.underlying63 rfl rfl rfl) rfl rfl rfl ?_
   refine D_pure (i := 7) [0, 1, 2, 3, 4, 5] rfl kr rfl (pr_add (add32 _ _) rfl rfl rfl) (.inr rfl) rfl rfl ?_
   refine D_pure (i := 8) [0, 1, 2, 3, 4, 5] rfl kr rfl (pr_cv (cv32_64 _) Try.underlying63 Try.underlying49 rfl rfl) (.inr rfl) rfl rfl ?_
   refine D_one 9 _ rfl kr rfl (op_c1 0 rfl (fun w hw => putLow_f (outb (crounds (cstB key ctr nonce 3) 10) (cstB key ctr nonce 3) i) (((ath (crounds (cstB key ctr nonce 3) 10) i) + (ath (cstB key ctr nonce 3) i)).setWidth 64) 4 A1 (4 * i) c1 w (hw _ (List.mem_of_getElem? (i := 0) rfl)) sd sd) (enters_of Try.func52 kr rfl) rfl rfl rfl rfl rfl (fun t17 q18 => ?_))
   obtain ⟨B19, d20⟩ := t17
   refine D_past kr ?_
   refine D_pure (i := 10) [] rfl kr rfl (pr_assign rfl rfl) (.inl kr) rfl rfl ?_
   refine D_done kr ?_
   refine T_reg hF rfl ?_
   refine lo rfl (pr_add (na_i64 (a := i) (b := 1) sd) rfl rfl rfl) rfl rfl ?_
   refine lm rfl rfl rfl rfl rfl ?_
   refine L_nil ?_
   refine T_slot 14 (.slice B19 ((4 * i) + 4) d20) (.slice B19 (4 * (i + 1)) d20) rfl (by rfl) ?_
   refine T_as 0 _ (.row (.slice B19 (4 * (i + 1)) d20) 5 1 (4 * (i + 1)) ((outb (crounds (cstB key ctr nonce 3) 10) (cstB key ctr nonce 3) (i + 1)).map b8)) rfl (by rw [outb_succ]; rfl) ?_
   exact T_again (i + 1, B19, d20) (by first | trivial | ((try dsimp only); first | omega | (refine ⟨?_, ?_⟩ <;> omega) | (refine ⟨?_, ?_, ?_⟩ <;> omega) | (simp; done) | (simp; omega))) (by first | trivial | ((try dsimp only); first | omega | (refine ⟨?_, ?_⟩ <;> omega) | (refine ⟨?_, ?_, ?_⟩ <;> omega) | (simp; done) | (simp; omega))) (sc rfl (sc rfl (sc rfl (sc rfl (sc rfl sn))))) [0, 1, 2, 3, 4, 5] ⟨by decide, rfl⟩
  ·
   have hc_16 := of_decide_eq_false hc_16
   refine T_exit rfl ?_
   obtain rfl : 16 = i := by omega
   refine Tsr hF rfl ?_
   refine lm rfl rfl rfl rfl rfl ?_
   refine lo rfl (pr_s2a sd Try.underlying84 rfl rfl) rfl rfl ?_
   refine lq rfl (ld_aggs (ds := ((outb (crounds (cstB key ctr nonce 3) 10) (cstB key ctr nonce 3) 16).map b8)) (src_row 0 rfl) (List.take_length) (by have h1 : (((outb (crounds (cstB key ctr nonce 3) 10) (cstB key ctr nonce 3) 16).map b8)).length = 64 := sd; omega) Try.underlying84 rfl (fwz (n := 64) kr sd) rfl rfl) rfl rfl ?_
   refine L_op rfl (op_sto (n := 64) (vs := ((outb (crounds (cstB key ctr nonce 3) 10) (cstB key ctr nonce 3) 16).map b8)) 3 rfl rfl kr (all8_one _) kr sd rfl rfl rfl rfl ?_)
   refine L_nil ?_
   refine T_ret ?_
   refine T_as 0 _ (.blk g3 84 ((cblock key ctr nonce).map b8)) rfl (by rw [cblock_def]) ?_
   exact T_fin () (by first | trivial | omega | (simp; done)) (resb 0 rfl rfl rfl Try.underlying84 rfl (fwz (n := 64) kr sd)) [] ⟨by decide, rfl⟩ rfl
set_option maxHeartbeats 4000000 in
theorem rword_f (xs : List (BitVec 8)) (A : Option Addr) (c : Nat) (w : World) (hO : HOK [.rd A 1 4 c (xs.map b8)] w) (hx : xs.length = 4) : Calls Try.prog 66 [(.slice A 4 c)].toArray w (Ret (T := Unit) [] w (fun _ => True) (fun _ => (b32 ((low xs 4).setWidth 32))) (fun _ => [])) := by
 have hF : Wid Fence.wide := wid_wide
 refine enter (c := _) Try.func66 rfl [] [(.slice A 4 c)] [.rd A 1 4 c (xs.map b8)] (by rw [Try.ntmps66]; rfl) (own_rds hO rfl) ?_
 rw [Try.ntmps66]
 refine T_re [(0, (.slice A 4 c))] (sc rfl sn) ?_
 refine T_he [0] [.rd A 1 4 c (xs.map b8)] ⟨by decide, rfl⟩ ?_
 refine Tsr hF rfl ?_
 refine la rfl rfl rfl rfl rfl ?_
 refine L_nil ?_
 refine T_seq ?_
 refine T_regD [.rd A 1 4 c (xs.map b8)] 23 23 #[false, false, false, false, false, false, false, false, false, false, false, false, false, false, false, false, false, false, false, false, false, false, false] hF kr kr ?_
 refine D_pure (i := 0) [0] rfl kr rfl (pr_move rfl rfl) (.inr rfl) rfl rfl ?_
 refine D_pure (i := 1) [0] rfl kr rfl (pr_ixs1 (j := 0) (src_none (src_rd 0 rfl)) sd Try.underlying25 kr rfl rfl rfl) (.inr rfl) rfl rfl ?_
 refine D_pure (i := 4) [0] rfl kr rfl (pr_move rfl rfl) (.inr rfl) rfl rfl ?_
 refine D_pure (i := 5) [0] rfl kr rfl (pr_ixs1 (j := 1) (src_none (src_rd 0 rfl)) sd Try.underlying25 kr rfl rfl rfl) (.inr rfl) rfl rfl ?_
 refine D_pure (i := 10) [0] rfl kr rfl (pr_move rfl rfl) (.inr rfl) rfl rfl ?_
 refine D_pure (i := 11) [0] rfl kr rfl (pr_ixs1 (j := 2) (src_none (src_rd 0 rfl)) sd Try.underlying25 kr rfl rfl rfl) (.inr rfl) rfl rfl ?_
 refine D_pure (i := 16) [0] rfl kr rfl (pr_move rfl rfl) (.inr rfl) rfl rfl ?_
 refine D_pure (i := 17) [0] rfl kr rfl (pr_ixs1 (j := 3) (src_none (src_rd 0 rfl)) sd Try.underlying25 kr rfl rfl rfl) (.inr rfl) rfl rfl ?_
 refine D_take (i := 2) [0] rfl kr rfl (ld_src (m := 0) (src_rd 0 rfl) (get8 sd) Try.underlying5 rfl rfl rfl) rfl rfl rfl ?_
 refine D_pure (i := 3) [0] rfl kr rfl (pr_cv (cv8_32 _) Try.underlying5 Try.underlying63 rfl rfl) (.inr rfl) rfl rfl ?_
 refine D_take (i := 6) [0] rfl kr rfl (ld_src (m := 1) (src_rd 0 rfl) (get8 sd) Try.underlying5 rfl rfl rfl) rfl rfl rfl ?_
 refine D_pure (i := 7) [0] rfl kr rfl (pr_cv (cv8_32 _) Try.underlying5 Try.underlying63 rfl rfl) (.inr rfl) rfl rfl ?_
 refine D_pure (i := 8) [0] rfl kr rfl (pr_shift (sh_shl32 ((ath xs 1).setWidth 32) _ 8) rfl rfl rfl rfl) (.inr rfl) rfl rfl ?_
 refine D_pure (i := 9) [0] rfl kr rfl (pr_or (ib_or32 _ _) rfl rfl rfl) (.inr rfl) rfl rfl ?_
 refine D_take (i := 12) [0] rfl kr rfl (ld_src (m := 2) (src_rd 0 rfl) (get8 sd) Try.underlying5 rfl rfl rfl) rfl rfl rfl ?_
 refine D_pure (i := 13) [0] rfl kr rfl (pr_cv (cv8_32 _) Try.underlying5 Try.underlying63 rfl rfl) (.inr rfl) rfl rfl ?_
 refine D_pure (i := 14) [0] rfl kr rfl (pr_shift (sh_shl32 ((ath xs 2).setWidth 32) _ 16) rfl rfl rfl rfl) (.inr rfl) rfl rfl ?_
 refine D_pure (i := 15) [0] rfl kr rfl (pr_or (ib_or32 _ _) rfl rfl rfl) (.inr rfl) rfl rfl ?_
 refine D_take (i := 18) [0] rfl kr rfl (ld_src (m := 3) (src_rd 0 rfl) (get8 sd) Try.underlying5 rfl rfl rfl) rfl rfl rfl ?_
 refine D_pure (i := 19) [0] rfl kr rfl (pr_cv (cv8_32 _) Try.underlying5 Try.underlying63 rfl rfl) (.inr rfl) rfl rfl ?_
 refine D_pure (i := 20) [0] rfl kr rfl (pr_shift (sh_shl32 ((ath xs 3).setWidth 32) _ 24) rfl rfl rfl rfl) (.inr rfl) rfl rfl ?_
 refine D_pure (i := 21) [0] rfl kr rfl (pr_or (ib_or32 _ _) rfl rfl rfl) (.inr rfl) rfl rfl ?_
 refine D_pure (i := 22) [0] rfl kr rfl (pr_assign rfl rfl) (.inr rfl) rfl rfl ?_
 refine D_done kr ?_
 refine T_ret ?_
 refine T_slot 2 _ (b32 ((low xs 4).setWidth 32)) rfl (by rw [← word4_low]) ?_
 exact T_fin () (by first | trivial | omega | (simp; done)) (res1 rfl rfl) [] ⟨by decide, rfl⟩ rfl
set_option maxHeartbeats 4000000 in
theorem rround_f (xs16 : List (BitVec 32)) (i : Nat) (j : Nat) (k : Nat) (l : Nat) (w : World) (hO : HOK [] w) (hx : xs16.length = 16) (hi : i < 16) (hj : j < 16) (hk : k < 16) (hl : l < 16) : Calls Try.prog 67 [(.agg (xs16.map b32).toArray), (.int .i64 ((i : Nat) : Int)), (.int .i64 ((j : Nat) : Int)), (.int .i64 ((k : Nat) : Int)), (.int .i64 ((l : Nat) : Int))].toArray w (Ret (T := Unit) [] w (fun _ => True) (fun _ => (.agg ((qr4 xs16 i j k l).map b32).toArray)) (fun _ => [])) := by
 have hq := cq16 (i := i) (j := j) (k := k) (l := l) hx
 have hF : Wid Fence.wide := wid_wide
 refine enter (c := _) Try.func67 rfl [] [(.agg (xs16.map b32).toArray), (.int .i64 ((i : Nat) : Int)), (.int .i64 ((j : Nat) : Int)), (.int .i64 ((k : Nat) : Int)), (.int .i64 ((l : Nat) : Int))] [] (by rw [Try.ntmps67]; rfl) (own_rds hO rfl) ?_
 rw [Try.ntmps67]
 refine T_re [(0, (.agg (xs16.map b32).toArray)), (1, (.int .i64 ((i : Nat) : Int))), (2, (.int .i64 ((j : Nat) : Int))), (3, (.int .i64 ((k : Nat) : Int))), (4, (.int .i64 ((l : Nat) : Int)))] (sc rfl (sc rfl (sc rfl (sc rfl (sc rfl sn))))) ?_
 refine T_he [] [] ⟨by decide, rfl⟩ ?_
 refine Tsr hF rfl ?_
 refine L_op rfl (op_box (zs := (xs16.map b32)) rfl rfl rfl rfl rfl (fun g1 => ?_))
 refine L_op rfl (op_alloc (z := .agg ((List.replicate 16 0#32).map b32).toArray) (zs := ((List.replicate 16 0#32).map b32)) kr rfl rfl rfl rfl (fun g2 => ?_))
 refine L_nil ?_
 refine T_seq ?_
 refine T_regD [.blk g2 90 ((List.replicate 16 0#32).map b32), .blk g1 90 (xs16.map b32)] 22 22 #[false, false, false, false, false, false, false, false, false, false, false, false, false, false, false, false, false, false, false, false, false, false] hF kr kr ?_
 refine D_pure (i := 0) [0, 1] rfl kr rfl (pr_move rfl rfl) (.inr rfl) rfl rfl ?_
 refine D_pure (i := 1) [0, 1] rfl kr rfl (pr_ixa (j := i) (m' := i) sd (by omega) Try.underlying90 (z := 1) kr rfl rfl rfl) (.inr rfl) rfl rfl ?_
 refine D_pure (i := 3) [0, 1] rfl kr rfl (pr_move rfl rfl) (.inr rfl) rfl rfl ?_
 refine D_pure (i := 4) [0, 1] rfl kr rfl (pr_ixa (j := j) (m' := j) sd (by omega) Try.underlying90 (z := 1) kr rfl rfl rfl) (.inr rfl) rfl rfl ?_
 refine D_pure (i := 6) [0, 1] rfl kr rfl (pr_move rfl rfl) (.inr rfl) rfl rfl ?_
 refine D_pure (i := 7) [0, 1] rfl kr rfl (pr_ixa (j := k) (m' := k) sd (by omega) Try.underlying90 (z := 1) kr rfl rfl rfl) (.inr rfl) rfl rfl ?_
 refine D_pure (i := 9) [0, 1] rfl kr rfl (pr_move rfl rfl) (.inr rfl) rfl rfl ?_
 refine D_pure (i := 10) [0, 1] rfl kr rfl (pr_ixa (j := l) (m' := l) sd (by omega) Try.underlying90 (z := 1) kr rfl rfl rfl) (.inr rfl) rfl rfl ?_
 refine D_take (i := 2) [0, 1] rfl kr rfl (ld_blk 1 rfl (get32 sd) Try.underlying63 rfl rfl rfl) rfl rfl rfl ?_
 refine D_take (i := 5) [0, 1] rfl kr rfl (ld_blk 1 rfl (get32 sd) Try.underlying63 rfl rfl rfl) rfl rfl rfl ?_
 refine D_take (i := 8) [0, 1] rfl kr rfl (ld_blk 1 rfl (get32 sd) Try.underlying63 rfl rfl rfl) rfl rfl rfl ?_
 refine D_take (i := 11) [0, 1] rfl kr rfl (ld_blk 1 rfl (get32 sd) Try.underlying63 rfl rfl rfl) rfl rfl rfl ?_
 refine D_one 12 _ rfl kr rfl (op_cn (fun w hw => rquarter_f (ath xs16 i) (ath xs16 j) (ath xs16 k) (ath xs16 l) w (hok_nil w) ) (enters_of Try.func69 kr rfl) rfl rfl rfl rfl rfl (fun t3 q4 => ?_))
 refine D_on [0, 1] rfl ?_
 refine D_pure (i := 13) [0, 1] rfl kr rfl (pr_move rfl rfl) (.inr rfl) rfl rfl ?_
 refine D_pure (i := 14) [0, 1] rfl kr rfl (pr_ext (vs := [(b32 (qa (ath xs16 i) (ath xs16 j) (ath xs16 k) (ath xs16 l))), (b32 (qb (ath xs16 i) (ath xs16 j) (ath xs16 k) (ath xs16 l))), (b32 (qc (ath xs16 i) (ath xs16 j) (ath xs16 k) (ath xs16 l))), (b32 (qd (ath xs16 i) (ath xs16 j) (ath xs16 k) (ath xs16 l)))]) rfl rfl rfl) (.inr rfl) rfl rfl ?_
 refine D_pure (i := 15) [0, 1] rfl kr rfl (pr_ext (vs := [(b32 (qa (ath xs16 i) (ath xs16 j) (ath xs16 k) (ath xs16 l))), (b32 (qb (ath xs16 i) (ath xs16 j) (ath xs16 k) (ath xs16 l))), (b32 (qc (ath xs16 i) (ath xs16 j) (ath xs16 k) (ath xs16 l))), (b32 (qd (ath xs16 i) (ath xs16 j) (ath xs16 k) (ath xs16 l)))]) rfl rfl rfl) (.inr rfl) rfl rfl ?_
 refine D_pure (i := 16) [0, 1] rfl kr rfl (pr_ext (vs := [(b32 (qa (ath xs16 i) (ath xs16 j) (ath xs16 k) (ath xs16 l))), (b32 (qb (ath xs16 i) (ath xs16 j) (ath xs16 k) (ath xs16 l))), (b32 (qc (ath xs16 i) (ath xs16 j) (ath xs16 k) (ath xs16 l))), (b32 (qd (ath xs16 i) (ath xs16 j) (ath xs16 k) (ath xs16 l)))]) rfl rfl rfl) (.inr rfl) rfl rfl ?_
 refine D_pure (i := 17) [0, 1] rfl kr rfl (pr_ext (vs := [(b32 (qa (ath xs16 i) (ath xs16 j) (ath xs16 k) (ath xs16 l))), (b32 (qb (ath xs16 i) (ath xs16 j) (ath xs16 k) (ath xs16 l))), (b32 (qc (ath xs16 i) (ath xs16 j) (ath xs16 k) (ath xs16 l))), (b32 (qd (ath xs16 i) (ath xs16 j) (ath xs16 k) (ath xs16 l)))]) rfl rfl rfl) (.inr rfl) rfl rfl ?_
 refine D_pure (i := 18) [0, 1] rfl kr rfl (pr_assign rfl rfl) (.inr rfl) rfl rfl ?_
 refine D_pure (i := 19) [0, 1] rfl kr rfl (pr_assign rfl rfl) (.inr rfl) rfl rfl ?_
 refine D_pure (i := 20) [0, 1] rfl kr rfl (pr_assign rfl rfl) (.inr rfl) rfl rfl ?_
 refine D_pure (i := 21) [0, 1] rfl kr rfl (pr_assign rfl rfl) (.inr rfl) rfl rfl ?_
 refine D_done kr ?_
 refine Tsr hF rfl ?_
 refine lm rfl rfl rfl rfl rfl ?_
 refine lm rfl rfl rfl rfl rfl ?_
 refine lm rfl rfl rfl rfl rfl ?_
 refine lm rfl rfl rfl rfl rfl ?_
 refine lo rfl (pr_ixa (j := i) (m' := i) sd (by omega) Try.underlying90 (z := 1) kr rfl rfl rfl) rfl rfl ?_
 refine L_op rfl (op_store (vs := [(b32 (qa (ath xs16 i) (ath xs16 j) (ath xs16 k) (ath xs16 l)))]) (cs' := ((List.set xs16 i (qa (ath xs16 i) (ath xs16 j) (ath xs16 k) (ath xs16 l))).map b32)) 1 rfl rfl kr (one_one rfl) (stl sd) (splice_map (f := b32) sd) rfl rfl rfl rfl ?_)
 refine lo rfl (pr_ixa (j := j) (m' := j) sd (by omega) Try.underlying90 (z := 1) kr rfl rfl rfl) rfl rfl ?_
 refine L_op rfl (op_store (vs := [(b32 (qb (ath xs16 i) (ath xs16 j) (ath xs16 k) (ath xs16 l)))]) (cs' := ((List.set (List.set xs16 i (qa (ath xs16 i) (ath xs16 j) (ath xs16 k) (ath xs16 l))) j (qb (ath xs16 i) (ath xs16 j) (ath xs16 k) (ath xs16 l))).map b32)) 0 rfl rfl kr (one_one rfl) (stl sd) (splice_map (f := b32) sd) rfl rfl rfl rfl ?_)
 refine L_nil ?_
 refine Tsr hF rfl ?_
 refine lm rfl rfl rfl rfl rfl ?_
 refine lm rfl rfl rfl rfl rfl ?_
 refine lm rfl rfl rfl rfl rfl ?_
 refine lm rfl rfl rfl rfl rfl ?_
 refine lo rfl (pr_ixa (j := k) (m' := k) sd (by omega) Try.underlying90 (z := 1) kr rfl rfl rfl) rfl rfl ?_
 refine L_op rfl (op_store (vs := [(b32 (qc (ath xs16 i) (ath xs16 j) (ath xs16 k) (ath xs16 l)))]) (cs' := ((List.set (List.set (List.set xs16 i (qa (ath xs16 i) (ath xs16 j) (ath xs16 k) (ath xs16 l))) j (qb (ath xs16 i) (ath xs16 j) (ath xs16 k) (ath xs16 l))) k (qc (ath xs16 i) (ath xs16 j) (ath xs16 k) (ath xs16 l))).map b32)) 0 rfl rfl kr (one_one rfl) (stl sd) (splice_map (f := b32) sd) rfl rfl rfl rfl ?_)
 refine lo rfl (pr_ixa (j := l) (m' := l) sd (by omega) Try.underlying90 (z := 1) kr rfl rfl rfl) rfl rfl ?_
 refine L_op rfl (op_store (vs := [(b32 (qd (ath xs16 i) (ath xs16 j) (ath xs16 k) (ath xs16 l)))]) (cs' := ((List.set (List.set (List.set (List.set xs16 i (qa (ath xs16 i) (ath xs16 j) (ath xs16 k) (ath xs16 l))) j (qb (ath xs16 i) (ath xs16 j) (ath xs16 k) (ath xs16 l))) k (qc (ath xs16 i) (ath xs16 j) (ath xs16 k) (ath xs16 l))) l (qd (ath xs16 i) (ath xs16 j) (ath xs16 k) (ath xs16 l))).map b32)) 0 rfl rfl kr (one_one rfl) (stl sd) (splice_map (f := b32) sd) rfl rfl rfl rfl ?_)
 refine L_nil ?_
 refine Tsr hF rfl ?_
 refine lq rfl (ld_agg (ds := ((List.set (List.set (List.set (List.set xs16 i (qa (ath xs16 i) (ath xs16 j) (ath xs16 k) (ath xs16 l))) j (qb (ath xs16 i) (ath xs16 j) (ath xs16 k) (ath xs16 l))) k (qc (ath xs16 i) (ath xs16 j) (ath xs16 k) (ath xs16 l))) l (qd (ath xs16 i) (ath xs16 j) (ath xs16 k) (ath xs16 l))).map b32)) 0 rfl agg_all Try.underlying90 rfl (fwz (n := 16) kr sd) rfl rfl) rfl rfl ?_
 refine L_op rfl (op_sto (n := 16) (vs := ((List.set (List.set (List.set (List.set xs16 i (qa (ath xs16 i) (ath xs16 j) (ath xs16 k) (ath xs16 l))) j (qb (ath xs16 i) (ath xs16 j) (ath xs16 k) (ath xs16 l))) k (qc (ath xs16 i) (ath xs16 j) (ath xs16 k) (ath xs16 l))) l (qd (ath xs16 i) (ath xs16 j) (ath xs16 k) (ath xs16 l))).map b32)) 1 rfl rfl kr (all32_one _) kr sd rfl rfl rfl rfl ?_)
 refine L_nil ?_
 refine T_ret ?_
 refine T_as 0 _ (.blk g2 90 ((qr4 xs16 i j k l).map b32)) rfl (by rw [qr4_def]) ?_
 exact T_fin () (by first | trivial | omega | (simp; done)) (resb 0 rfl rfl rfl Try.underlying90 rfl (fwz (n := 16) kr sd)) [] ⟨by decide, rfl⟩ rfl
end Go.Proofs.Ytemjinkdfjoicaa
