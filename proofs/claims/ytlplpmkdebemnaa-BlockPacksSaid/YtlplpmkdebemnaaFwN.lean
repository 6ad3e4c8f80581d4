/- Numbers, for the walks by facts. No conditions. -/
import Derived.Test.YtlplpmkdebemnaaFwE
namespace Go.Proofs.Ytlplpmkdebemnaa.Fw
set_option linter.unusedVariables false
set_option linter.unusedSimpArgs false
open Go.RowKit Bv
theorem ib_and8 (x y : BitVec 8) : Op.intBits .and .u8 (n8 x) (n8 y) = pure (.int .u8 (n8 (x &&& y))) := congrArg (fun z => (pure (Value.int .u8 z) : Sem Value)) (and8 x y)
theorem ib_or8 (x y : BitVec 8) : Op.intBits .or .u8 (n8 x) (n8 y) = pure (.int .u8 (n8 (x ||| y))) := congrArg (fun z => (pure (Value.int .u8 z) : Sem Value)) (or8 x y)
theorem ib_xor8 (x y : BitVec 8) : Op.intBits .xor .u8 (n8 x) (n8 y) = pure (.int .u8 (n8 (x ^^^ y))) := congrArg (fun z => (pure (Value.int .u8 z) : Sem Value)) (xor8 x y)
theorem ib_andNot8 (x y : BitVec 8) : Op.intBits .andNot .u8 (n8 x) (n8 y) = pure (.int .u8 (n8 (x &&& ~~~y))) := congrArg (fun z => (pure (Value.int .u8 z) : Sem Value)) (andNot8 x y)
theorem sh_shl8 (x : BitVec 8) (yk : IntKind) (m : Nat) : Op.shift .shl .u8 (n8 x) yk (m : Int) = pure (.int .u8 (n8 (x <<< m))) := shll8 x yk m
theorem sh_shr8 (x : BitVec 8) (yk : IntKind) (m : Nat) : Op.shift .shr .u8 (n8 x) yk (m : Int) = pure (.int .u8 (n8 (x >>> m))) := shrl8 x yk m
theorem un_neg8 (x : BitVec 8) : Op.unary .neg (.int .u8 (n8 x)) = pure (.int .u8 (n8 (-x))) := by
  show Op.intArith .sub .u8 0 (n8 x) = _
  unfold Op.intArith
  rw [← neg8 x]; simp
theorem cm_lt8 (x y : BitVec 8) : decide (n8 x < n8 y) = decide (x < y) := by simp only [n8_lt]
theorem cm_le8 (x y : BitVec 8) : decide (n8 x ≤ n8 y) = decide (x ≤ y) := by rw [decide_eq_decide]; unfold n8; rw [BitVec.le_def]; omega
theorem get8 {xs : List (BitVec 8)} {m : Nat} (h : m < xs.length) : (xs.map b8)[m]? = some (b8 (ath xs m)) := by rw [List.getElem?_map, List.getElem?_eq_getElem h, ath_get xs m h]; rfl
theorem id8 (x : BitVec 8) : IntKind.u8.wrap (n8 x) = n8 x := in8 x
theorem nw8 (m : Nat) : IntKind.u8.wrap (m : Int) = n8 (BitVec.ofNat 8 m) := by rw [Bv.wrap8, BitVec.ofInt_natCast]
theorem ib_and32 (x y : BitVec 32) : Op.intBits .and .u32 (n32 x) (n32 y) = pure (.int .u32 (n32 (x &&& y))) := congrArg (fun z => (pure (Value.int .u32 z) : Sem Value)) (and32 x y)
theorem ib_or32 (x y : BitVec 32) : Op.intBits .or .u32 (n32 x) (n32 y) = pure (.int .u32 (n32 (x ||| y))) := congrArg (fun z => (pure (Value.int .u32 z) : Sem Value)) (or32 x y)
theorem ib_xor32 (x y : BitVec 32) : Op.intBits .xor .u32 (n32 x) (n32 y) = pure (.int .u32 (n32 (x ^^^ y))) := congrArg (fun z => (pure (Value.int .u32 z) : Sem Value)) (xor32 x y)
theorem ib_andNot32 (x y : BitVec 32) : Op.intBits .andNot .u32 (n32 x) (n32 y) = pure (.int .u32 (n32 (x &&& ~~~y))) := congrArg (fun z => (pure (Value.int .u32 z) : Sem Value)) (andNot32 x y)
theorem sh_shl32 (x : BitVec 32) (yk : IntKind) (m : Nat) : Op.shift .shl .u32 (n32 x) yk (m : Int) = pure (.int .u32 (n32 (x <<< m))) := shll32 x yk m
theorem sh_shr32 (x : BitVec 32) (yk : IntKind) (m : Nat) : Op.shift .shr .u32 (n32 x) yk (m : Int) = pure (.int .u32 (n32 (x >>> m))) := shrl32 x yk m
theorem un_neg32 (x : BitVec 32) : Op.unary .neg (.int .u32 (n32 x)) = pure (.int .u32 (n32 (-x))) := by
  show Op.intArith .sub .u32 0 (n32 x) = _
  unfold Op.intArith
  rw [← neg32 x]; simp
theorem cm_lt32 (x y : BitVec 32) : decide (n32 x < n32 y) = decide (x < y) := by simp only [n32_lt]
theorem cm_le32 (x y : BitVec 32) : decide (n32 x ≤ n32 y) = decide (x ≤ y) := by rw [decide_eq_decide]; unfold n32; rw [BitVec.le_def]; omega
theorem get32 {xs : List (BitVec 32)} {m : Nat} (h : m < xs.length) : (xs.map b32)[m]? = some (b32 (ath xs m)) := by rw [List.getElem?_map, List.getElem?_eq_getElem h, ath_get xs m h]; rfl
theorem id32 (x : BitVec 32) : IntKind.u32.wrap (n32 x) = n32 x := in32 x
theorem nw32 (m : Nat) : IntKind.u32.wrap (m : Int) = n32 (BitVec.ofNat 32 m) := by rw [Bv.wrap32, BitVec.ofInt_natCast]
theorem ib_and64 (x y : BitVec 64) : Op.intBits .and .u64 (n64 x) (n64 y) = pure (.int .u64 (n64 (x &&& y))) := congrArg (fun z => (pure (Value.int .u64 z) : Sem Value)) (and64 x y)
theorem ib_or64 (x y : BitVec 64) : Op.intBits .or .u64 (n64 x) (n64 y) = pure (.int .u64 (n64 (x ||| y))) := congrArg (fun z => (pure (Value.int .u64 z) : Sem Value)) (or64 x y)
theorem ib_xor64 (x y : BitVec 64) : Op.intBits .xor .u64 (n64 x) (n64 y) = pure (.int .u64 (n64 (x ^^^ y))) := congrArg (fun z => (pure (Value.int .u64 z) : Sem Value)) (xor64 x y)
theorem ib_andNot64 (x y : BitVec 64) : Op.intBits .andNot .u64 (n64 x) (n64 y) = pure (.int .u64 (n64 (x &&& ~~~y))) := congrArg (fun z => (pure (Value.int .u64 z) : Sem Value)) (andNot64 x y)
theorem sh_shl64 (x : BitVec 64) (yk : IntKind) (m : Nat) : Op.shift .shl .u64 (n64 x) yk (m : Int) = pure (.int .u64 (n64 (x <<< m))) := shll64 x yk m
theorem sh_shr64 (x : BitVec 64) (yk : IntKind) (m : Nat) : Op.shift .shr .u64 (n64 x) yk (m : Int) = pure (.int .u64 (n64 (x >>> m))) := shrl64 x yk m
theorem un_neg64 (x : BitVec 64) : Op.unary .neg (.int .u64 (n64 x)) = pure (.int .u64 (n64 (-x))) := by
  show Op.intArith .sub .u64 0 (n64 x) = _
  unfold Op.intArith
  rw [← neg64 x]; simp
theorem cm_lt64 (x y : BitVec 64) : decide (n64 x < n64 y) = decide (x < y) := by simp only [n64_lt]
theorem cm_le64 (x y : BitVec 64) : decide (n64 x ≤ n64 y) = decide (x ≤ y) := by rw [decide_eq_decide]; unfold n64; rw [BitVec.le_def]; omega
theorem get64 {xs : List (BitVec 64)} {m : Nat} (h : m < xs.length) : (xs.map b64)[m]? = some (b64 (ath xs m)) := by rw [List.getElem?_map, List.getElem?_eq_getElem h, ath_get xs m h]; rfl
theorem id64 (x : BitVec 64) : IntKind.u64.wrap (n64 x) = n64 x := in64 x
theorem nw64 (m : Nat) : IntKind.u64.wrap (m : Int) = n64 (BitVec.ofNat 64 m) := by rw [Bv.wrap64, BitVec.ofInt_natCast]
theorem na_i64 {a b : Nat} (h : a + b ≤ 9223372036854775807) : IntKind.i64.wrap ((a : Int) + (b : Int)) = ((a + b : Nat) : Int) := by rw [IntKind.wrap_i64]; omega
theorem ns_i64 {a b : Nat} (h : b ≤ a) (h2 : a ≤ 9223372036854775807) : IntKind.i64.wrap ((a : Int) - (b : Int)) = ((a - b : Nat) : Int) := by rw [IntKind.wrap_i64]; omega
theorem nm_i64 {a b : Nat} (h : a * b ≤ 9223372036854775807) : IntKind.i64.wrap ((a : Int) * (b : Int)) = ((a * b : Nat) : Int) := by
  have e : (a : Int) * (b : Int) = ((a * b : Nat) : Int) := by simp
  rw [e]; generalize a * b = q at h; rw [IntKind.wrap_i64]; omega
theorem ni_i64 {a : Nat} (h : a ≤ 9223372036854775807) : IntKind.i64.wrap (a : Int) = (a : Int) := by rw [IntKind.wrap_i64]; omega
theorem ni_u64 {a : Nat} (h : a ≤ 18446744073709551615) : IntKind.u64.wrap (a : Int) = (a : Int) := by simp [IntKind.wrap, IntKind.bits, IntKind.signed]; omega
theorem ni_u32 {a : Nat} (h : a ≤ 4294967295) : IntKind.u32.wrap (a : Int) = (a : Int) := by simp [IntKind.wrap, IntKind.bits, IntKind.signed]; omega
theorem ni_u8 {a : Nat} (h : a ≤ 255) : IntKind.u8.wrap (a : Int) = (a : Int) := by simp [IntKind.wrap, IntKind.bits, IntKind.signed]; omega
theorem na_u64 {a b : Nat} (h : a + b ≤ 18446744073709551615) : IntKind.u64.wrap ((a : Int) + (b : Int)) = ((a + b : Nat) : Int) := by rw [show (a : Int) + b = ((a + b : Nat) : Int) by omega]; exact ni_u64 h
theorem nm_u64 {a b : Nat} (h : a * b ≤ 18446744073709551615) : IntKind.u64.wrap ((a : Int) * (b : Int)) = ((a * b : Nat) : Int) := by rw [show (a : Int) * b = ((a * b : Nat) : Int) by simp]; exact ni_u64 h
theorem nc_lt {a b : Nat} : decide ((a : Int) < (b : Int)) = decide (a < b) := by rw [decide_eq_decide]; omega
theorem nc_le {a b : Nat} : decide ((a : Int) ≤ (b : Int)) = decide (a ≤ b) := by rw [decide_eq_decide]; omega
theorem nc_eq {a b : Nat} : ((a : Int) == (b : Int)) = (a == b) := by rw [Bool.eq_iff_iff]; simp; omega
theorem nc_ne {a b : Nat} : ((a : Int) != (b : Int)) = (a != b) := by simp only [bne, nc_eq]
theorem zc_u64 (z : Int) : IntKind.u64.wrap z = n64 (BitVec.ofInt 64 z) := Bv.wrap64 z
theorem zc_u32 (z : Int) : IntKind.u32.wrap z = n32 (BitVec.ofInt 32 z) := Bv.wrap32 z
theorem zc_u8 (z : Int) : IntKind.u8.wrap z = n8 (BitVec.ofInt 8 z) := Bv.wrap8 z
theorem nmax {k : IntKind} {a b : Nat} : Value.int k (if (a : Int) < (b : Int) then (b : Int) else (a : Int)) = .int k ((max a b : Nat) : Int) := by congr 1; split <;> omega
theorem nmin {k : IntKind} {a b : Nat} : Value.int k (if (b : Int) < (a : Int) then (b : Int) else (a : Int)) = .int k ((min a b : Nat) : Int) := by congr 1; split <;> omega
theorem nat64 {m : Nat} (h : m ≤ 18446744073709551615) : Value.int .u64 (m : Int) = b64 (BitVec.ofNat 64 m) := by
  show Value.int .u64 _ = Value.int .u64 _
  congr 1; unfold n64; rw [BitVec.toNat_ofNat]; omega
theorem nat32 {m : Nat} (h : m ≤ 4294967295) : Value.int .u32 (m : Int) = b32 (BitVec.ofNat 32 m) := by
  show Value.int .u32 _ = Value.int .u32 _
  congr 1; unfold n32; rw [BitVec.toNat_ofNat]; omega
theorem nat8 {m : Nat} (h : m ≤ 255) : Value.int .u8 (m : Int) = b8 (BitVec.ofNat 8 m) := by
  show Value.int .u8 _ = Value.int .u8 _
  congr 1; unfold n8; rw [BitVec.toNat_ofNat]; omega
theorem n64i {x : BitVec 64} (h : x.toNat ≤ 9223372036854775807) : IntKind.i64.wrap (n64 x) = ((x.toNat : Nat) : Int) := by unfold n64; exact ni_i64 h
theorem n32i {x : BitVec 32} : IntKind.i64.wrap (n32 x) = ((x.toNat : Nat) : Int) := by unfold n32; exact ni_i64 (by have := x.isLt; omega)
theorem n8i {x : BitVec 8} : IntKind.i64.wrap (n8 x) = ((x.toNat : Nat) : Int) := by unfold n8; exact ni_i64 (by have := x.isLt; omega)
theorem own_one {x : HA} {w : World} (hx : x.ok w) (hb : x.outB = true) (ho : x.rids = []) : Own x.ids [x] w := by
  refine ⟨fun y hy => by rw [List.mem_singleton] at hy; subst hy; cases y <;> first | exact ⟨rfl, rfl⟩ | (cases hb; done), fun y hy => by rw [List.mem_singleton] at hy; subst hy; exact hx, fun y hy k hk => ?_, ?_, fun y hy z hz r hr => ?_⟩
  · rw [List.mem_singleton] at hy; subst hy
    cases y <;> first | exact hk | (cases hb; done) | (simp only [HA.rids] at ho; simp only [HA.frs] at hk; rw [ho] at hk; cases hk)
  · cases x <;> simp [HA.ids]
    rename_i v _ _ _ _
    cases v.ownBlock <;> simp
  · rw [List.mem_singleton] at hy; subst hy; rw [ho] at hr; cases hr
def rdB : HA → Bool
  | .rd _ _ _ _ _ => true
  | .all _ => true
  | _ => false
theorem own_rds {h : List HA} {w : World} (hh : HOK h w) (hb : h.all rdB = true) : Own [] h w := by
  have key : ∀ x ∈ h, x.frs = [] ∧ x.ids = [] := fun x hx => by
    have := List.all_eq_true.1 hb x hx
    cases x <;> first | exact ⟨rfl, rfl⟩ | (cases this; done)
  refine ⟨fun x hx => (by have := List.all_eq_true.1 hb x hx; cases x <;> first | exact ⟨rfl, rfl⟩ | (cases this; done)), hh, fun x hx k hk => (by rw [(key x hx).1] at hk; cases hk), ?_, fun x _ y hy r _ => by rw [(key y hy).2]; simp⟩
  have : h.flatMap HA.ids = [] := List.flatMap_eq_nil_iff.2 fun x hx => (key x hx).2
  rw [this]; exact List.nodup_nil
theorem src_full {h : List HA} {g z n c : Nat} {e : TypeId} {cs : List Value} (i : Nat) (hi : h[i]? = some (.blk g e cs)) (hl : cs.length = n * z) (hc : n ≤ c) (hm : c ≤ 9223372036854775807) : Src h (some ⟨g, 0, none⟩) z n c cs :=
  src_blk i hi hl (by rw [List.drop_zero, ← hl]; exact List.take_length) hc hm
theorem src_sub {h : List HA} {β : Type} {f : β → Value} {xs : List β} {g m n c : Nat} {e : TypeId} (i : Nat) (hi : h[i]? = some (.blk g e (xs.map f))) (hn : m + n ≤ xs.length) (hc : n ≤ c) (hm : c ≤ 9223372036854775807) : Src h (some ⟨g, m, none⟩) 1 n c (((xs.drop m).take n).map f) :=
  src_blk i hi (by simp; omega) (by rw [Nat.mul_one, List.map_take, List.map_drop]) hc hm
def pat (L : List Pt) (j : Nat) : Pt := L.getD j ⟨none, 0, 0, []⟩
theorem pat_mem {L : List Pt} {j : Nat} (h : j < L.length) : pat L j ∈ L := by unfold pat; rw [List.getD_eq_getElem?_getD, List.getElem?_eq_getElem h]; simp
theorem pat_get {L : List Pt} {j : Nat} (h : j < L.length) : (L.map Pt.sl)[j]? = some (.slice (pat L j).A (pat L j).n (pat L j).c) := by
  unfold pat; rw [List.getElem?_map, List.getD_eq_getElem?_getD, List.getElem?_eq_getElem h]; rfl
/-- All bytes, one behind the other. -/
def catp (L : List Pt) : List (BitVec 8) := L.flatMap (·.xs)
theorem catp_take {L : List Pt} {j : Nat} (h : j < L.length) : catp (L.take (j + 1)) = catp (L.take j) ++ (pat L j).xs := by
  unfold catp pat
  rw [List.take_succ_eq_append_getElem h, List.flatMap_append, List.getD_eq_getElem?_getD, List.getElem?_eq_getElem h]
  simp
theorem catp_le (L : List Pt) (j : Nat) : (catp (L.take j)).length ≤ (catp L).length := by
  have : catp L = catp (L.take j) ++ catp (L.drop j) := by unfold catp; rw [← List.flatMap_append, List.take_append_drop]
  rw [this, List.length_append]; omega
theorem T_ofall {X : Cx} {s : List (Nat × Value)} {h : List HA} {J : Jd} (i : Nat) {L : List Pt} (hi : h[i]? = some (.all L)) {p : Pt} (hp : p ∈ L) (hh : p.xs.length = p.n → p.n ≤ p.c → Tr X s (.rd p.A 1 p.n p.c (p.xs.map b8) :: h) J) : Tr X s h J := fun a w st => by
  have hm := List.mem_of_getElem? hi
  have hx : (HA.all L).ok w := st.ok _ hm
  have h1 := hx p hp
  have hr : ∀ r ∈ (HA.rd p.A 1 p.n p.c (p.xs.map b8)).rids, r ∈ (HA.all L).rids := fun r hr => List.mem_flatMap.2 ⟨p, hp, hr⟩
  refine hh (by have := h1.1.len; simpa using this) h1.1.le a w ⟨st.sz, st.df, st.sl, st.kp, ?_, st.ll, ?_, by simpa [HA.ids] using st.nd, ?_, ?_, ?_, ⟨st.rk.1, ?_⟩⟩
  · intro x hx'
    rcases List.mem_cons.1 hx' with rfl | hx'
    · exact h1
    · exact st.ok x hx'
  · intro x hx' k hk
    rcases List.mem_cons.1 hx' with rfl | hx'
    · cases hk
    · exact st.fr x hx' k hk
  · intro x hx' y hy r hrr hry
    rcases List.mem_cons.1 hy with rfl | hy
    · cases hry
    · rcases List.mem_cons.1 hx' with rfl | hx'
      · exact st.dj _ hm y hy r (hr r hrr) hry
      · exact st.dj x hx' y hy r hrr hry
  · intro x hx' q hq y hy hyb hqr
    rcases List.mem_cons.1 hx' with rfl | hx'
    · cases hq
    · rcases List.mem_cons.1 hy with rfl | hy
      · exact st.iv x hx' q hq _ hm rfl (hr q hqr)
      · exact st.iv x hx' q hq y hy hyb hqr
  · intro x hx' B hB
    rcases List.mem_cons.1 hx' with rfl | hx'
    · cases hB
    · exact st.ib x hx' B hB
  · intro x hx' r hrr
    rcases List.mem_cons.1 hx' with rfl | hx'
    · exact st.rk.2 _ hm r (hr r hrr)
    · exact st.rk.2 x hx' r hrr
theorem pr_cap_sl {P : Program} {s : List (Nat × Value)} {h : List HA} {o : Oper} {x : Operand} {t e' : TypeId} {A : Option Addr} {n c : Nat} (ht : P.underlying t = some (.slice e')) (ho : o.op = .call { callee := .builtin .cap, args := #[x], argTypes := #[t] }) (hx : ev s x = some (.slice A n c)) : Pr P s h o (.int .i64 (c : Int)) := fun e he w hw w' => by
  unfold execOp; rw [ho]; simp [he _ _ hx, resolve, invoke, builtin, Builtin.cap_, run_underlying ht, goInt]
/-- s[:k] of a row of the call's own. -/
theorem op_reslice {X : Cx} {s : List (Nat × Value)} {h : List HA} {P : Program} {o : Oper} {K K0 : Jd} {d : Nat} {t e e2 : TypeId} {x hi : Operand} {A : Option Addr} {z n c u : Nat} {zs : List Value} {k2 : IntKind} (i : Nat) (hi' : h[i]? = some (.row (.slice A n c) e2 z n zs)) (hun : u ≤ n) (ht : P.underlying t = some (.slice e)) (hz : (P.info? e).map (·.size) = some z)
    (ho : o.op = .slice t x none (some hi) none) (hx : ev s x = some (.slice A n c)) (hu : ev s hi = some (.int k2 (u : Int))) (hd : o.dst = some d) (hN : Nat.blt d X.N = true)
    (hh : Tr X ((d, .slice A u c) :: s) (.row (.slice A u c) e2 z u (zs.take (u * z)) :: h.eraseIdx i) K) : Tr X s h (Op P o K K0) := fun a w st => by
  have hown : w.ownsRow 0 e2 z (.slice A n c) n zs := st.ok _ (List.mem_of_getElem? hi')
  have hnc : n ≤ c := (src_row i hi' w st.ok).1.le
  have hr : (execOp a.eval o).run P w = .ok (.value (.slice A u c)) w := by
    have g1 : (0 : Int) ≤ (u : Int) ∧ (u : Int) ≤ c := by omega
    have g4 : u ≤ c := by omega
    have g5 : ¬ c < u := by omega
    unfold execOp; rw [ho]
    cases A with
    | none => simp [st.ag _ _ hx, st.ag _ _ hu, Instr.sliceAt, run_underlying ht, Instr.slice, Instr.sliceBounds, Instr.sliceBound, asIntOf, g1, g4, g5, run_sizeOf hz]
    | some ad => simp [st.ag _ _ hx, st.ag _ _ hu, Instr.sliceAt, run_underlying ht, Instr.slice, Instr.sliceBounds, Instr.sliceBound, asIntOf, g1, g4, g5, run_sizeOf hz, add0]
  refine op_val hr ?_
  rw [hd]
  have hown2 : w.ownsRow 0 e2 z (.slice A u c) u (zs.take (u * z)) := by
    obtain ⟨hl, h1 | ⟨g, cap, cur, hv, hb, hg, h2, h3, h4, h5⟩⟩ := hown
    · obtain ⟨h2, h3⟩ := h1
      obtain rfl : u = 0 := by omega
      refine ⟨by simp, .inl ⟨?_, rfl⟩⟩
      cases h2; rfl
    · cases hv
      have hle : u * z ≤ n * z := Nat.mul_le_mul_right z hun
      refine ⟨by rw [List.length_take, hl]; omega, .inr ⟨g, c, cur, rfl, Nat.zero_le _, hg, by omega, h3, h4, ?_⟩⟩
      rw [← h5, List.take_take, Nat.min_eq_left hle]
  refine hh _ _ (st.swapv [.row (.slice A n c) e2 z n zs] (h.eraseIdx i) [.row (.slice A u c) e2 z u (zs.take (u * z))] (perm_erase h i _ hi') hN _ (Keep.refl _ _) ?_ ?_ ?_ ?_)
  · intro x hx; rw [List.mem_singleton] at hx; subst hx; exact hown2
  · intro x hx k hk; rw [List.mem_singleton] at hx; subst hx
    refine .inl ?_
    cases A with
    | none => cases hk
    | some ad => simpa [HA.ids, HA.frs, Value.ownBlock] using hk
  · cases A <;> simp [HA.ids, Value.ownBlock]
  · intro x hx r hr; rw [List.mem_singleton] at hx; subst hx; cases hr
theorem hok_nil (w : World) : HOK [] w := by intro x hx; cases hx
theorem hok_cons {x : HA} {h : List HA} {w : World} (hx : x.ok w) (hh : HOK h w) : HOK (x :: h) w := by
  intro y hy
  rcases List.mem_cons.1 hy with rfl | hy
  · exact hx
  · exact hh y hy
/-- A list copied over a part of another one. -/
def cop {α : Type} (xs : List α) (m : Nat) (ys : List α) (k : Nat) : List α := xs.take m ++ ys.take k ++ xs.drop (m + (ys.take k).length)
theorem cop_map {α : Type} {f : α → Value} (xs : List α) (m : Nat) (ys : List α) (k : Nat) : (xs.map f).take m ++ (ys.map f).take k ++ (xs.map f).drop (m + ((ys.map f).take k).length) = (cop xs m ys k).map f := by
  unfold cop; simp [List.map_take, List.map_drop]
theorem un_negi {a : Nat} (h : a ≤ 9223372036854775807) : Op.unary .neg (.int .i64 (a : Int)) = pure (.int .i64 (-(a : Int))) := by
  show Op.intArith .sub .i64 0 (a : Int) = _
  unfold Op.intArith
  have : IntKind.i64.wrap (0 - (a : Int)) = -(a : Int) := by rw [IntKind.wrap_i64]; omega
  simp only [this]
theorem zmax0 {z : Int} (h : z < 0) : Value.int .i64 (if z < 0 then 0 else z) = .int .i64 ((0 : Nat) : Int) := by rw [if_pos h]; rfl
theorem zmax0' {z : Int} (h : z < 0) : Value.int .i64 (if (0 : Int) < z then z else 0) = .int .i64 ((0 : Nat) : Int) := by rw [if_neg (by omega)]; rfl
theorem chunk_lt (z n k : Nat) (hz : 0 < z) (h : z * k < n) : k < (n + z - 1) / z := by
  rw [Nat.lt_div_iff_mul_lt hz]
  have : k * z = z * k := Nat.mul_comm k z
  omega
theorem chunk_le (z n k : Nat) (hz : 0 < z) (h : z * k < n) : k + 1 ≤ (n + z - 1) / z := chunk_lt z n k hz h
theorem chunk_ge (z n k : Nat) (hz : 0 < z) (hk : k ≤ (n + z - 1) / z) (h : ¬ z * k < n) : k = (n + z - 1) / z := by
  apply Nat.le_antisymm hk
  apply Nat.le_of_lt_succ
  rw [Nat.div_lt_iff_lt_mul hz, Nat.succ_mul, Nat.mul_comm k z]
  omega
theorem chunk_mul (z n k : Nat) (hz : 0 < z) (hk : k ≤ (n + z - 1) / z) : z * k ≤ n + z := by
  have := Nat.mul_le_mul_left z hk
  have h2 := Nat.mul_div_le (n + z - 1) z
  omega
theorem rot_and (k : Int) (s : Nat) (hs : s < 32) (hk : k % 32 = s) : BitVec.ofInt 64 k &&& 31#64 = BitVec.ofNat 64 s := by
  apply BitVec.eq_of_toNat_eq
  rw [BitVec.toNat_and, BitVec.toNat_ofInt, BitVec.toNat_ofNat, BitVec.toNat_ofNat]
  rw [show 31 % 2 ^ 64 = 2 ^ 5 - 1 from rfl, Nat.and_two_pow_sub_one_eq_mod]
  omega
theorem pr_as {P : Program} {s : List (Nat × Value)} {h : List HA} {o : Oper} {v v' : Value} (hp : Pr P s h o v) (e : v = v') : Pr P s h o v' := e ▸ hp
theorem agg_all {cs : List Value} : (cs.drop 0).take cs.length = cs := by simp
end Go.Proofs.Ytlplpmkdebemnaa.Fw
