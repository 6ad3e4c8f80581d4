/- Walks by facts, part 2: what the functions that the law reaches answer. No conditions but lengths. -/
import Derived.Test.YtlplpmkdebemnaaDoorZKeysTell1
import Derived.RangeFuncNested
import Derived.RangeFuncBound
import Derived.RangeFuncCalls
import Derived.RangeFuncLeaves
import Derived.Laws.StructEq
import Derived.Stop.BytesEq
import Derived.Lib.SlBytesConst
import Derived.WalkSpells
import Derived.ChangeShapes
import Derived.ChangeSlices
import Derived.ChangeOld
import Derived.OpenShut
import Derived.Shelf.Strconv.Itoa0
import Derived.Shelf.Strconv.Itoa1
import Derived.Shelf.LaysM
import Derived.Shelf.Strconv.Itoa2
import Derived.Shelf.Strconv.Itoa3
import Derived.Test.YtlplpmkdebemnaaDoorProg
import Derived.LoopNIn
import Derived.Laws.Externs
namespace Go.Proofs.YtlplpmkdebemnaaDoor.Fw
set_option linter.unusedVariables false
set_option linter.unusedSimpArgs false
open Go.RowKit Bv
theorem ib_and8 (x y : BitVec 8) : Op.intBits .and .u8 (n8 x) (n8 y) = pure (.int .u8 (n8 (x &&& y))) := congrArg (fun z => (pure (Value.int .u8 z) : Sem Value)) (and8 x y)
theorem ib_or8 (x y : BitVec 8) : Op.intBits .or .u8 (n8 x) (n8 y) = pure (.int .u8 (n8 (x ||| y))) := congrArg (fun z => (pure (Value.int .u8 z) : Sem Value)) (or8 x y)
theorem ib_xor8 (x y : BitVec 8) : Op.intBits .xor .u8 (n8 x) (n8 y) = pure (.int .u8 (n8 (x ^^^ y))) := congrArg (fun z => (pure (Value.int .u8 z) : Sem Value)) (xor8 x y)
theorem ib_andNot8 (x y : BitVec 8) : Op.intBits .andNot .u8 (n8 x) (n8 y) = pure (.int .u8 (n8 (x &&& ~~~y))) := congrArg (fun z => (pure (Value.int .u8 z) : Sem Value)) (andNot8 x y)
theorem sh_shl8 (x : BitVec 8) (yk : IntKind) (m : Nat) : Op.shift .shl .u8 (n8 x) yk (m : Int) = pure (.int .u8 (n8 (x <<< m))) := shll8 x yk m
theorem sh_shr8 (x : BitVec 8) (yk : IntKind) (m : Nat) : Op.shift .shr .u8 (n8 x) yk (m : Int) = pure (.int .u8 (n8 (x >>> m))) := shrl8 x yk m
theorem un_neg8 (x : BitVec 8) : Op.unary .neg (.int .u8 (n8 x)) = pure (.int .u8 (n8 (-x))) := by
  show Op.intArith .sub .u8 0 (n8 x) = _
  unfold Op.intArith
  rw [← neg8 x]; simp
theorem cm_lt8 (x y : BitVec 8) : decide (n8 x < n8 y) = decide (x < y) := by simp only [n8_lt]
theorem cm_le8 (x y : BitVec 8) : decide (n8 x ≤ n8 y) = decide (x ≤ y) := by rw [decide_eq_decide]; unfold n8; rw [BitVec.le_def]; omega
theorem get8 {xs : List (BitVec 8)} {m : Nat} (h : m < xs.length) : (xs.map b8)[m]? = some (b8 (ath xs m)) := by rw [List.getElem?_map, List.getElem?_eq_getElem h, ath_get xs m h]; rfl
theorem id8 (x : BitVec 8) : IntKind.u8.wrap (n8 x) = n8 x := in8 x
theorem nw8 (m : Nat) : IntKind.u8.wrap (m : Int) = n8 (BitVec.ofNat 8 m) := by rw [Bv.wrap8, BitVec.ofInt_natCast]
theorem ib_and32 (x y : BitVec 32) : Op.intBits .and .u32 (n32 x) (n32 y) = pure (.int .u32 (n32 (x &&& y))) := congrArg (fun z => (pure (Value.int .u32 z) : Sem Value)) (and32 x y)
theorem ib_or32 (x y : BitVec 32) : Op.intBits .or .u32 (n32 x) (n32 y) = pure (.int .u32 (n32 (x ||| y))) := congrArg (fun z => (pure (Value.int .u32 z) : Sem Value)) (or32 x y)
theorem ib_xor32 (x y : BitVec 32) : Op.intBits .xor .u32 (n32 x) (n32 y) = pure (.int .u32 (n32 (x ^^^ y))) := congrArg (fun z => (pure (Value.int .u32 z) : Sem Value)) (xor32 x y)
theorem ib_andNot32 (x y : BitVec 32) : Op.intBits .andNot .u32 (n32 x) (n32 y) = pure (.int .u32 (n32 (x &&& ~~~y))) := congrArg (fun z => (pure (Value.int .u32 z) : Sem Value)) (andNot32 x y)
theorem sh_shl32 (x : BitVec 32) (yk : IntKind) (m : Nat) : Op.shift .shl .u32 (n32 x) yk (m : Int) = pure (.int .u32 (n32 (x <<< m))) := shll32 x yk m
theorem sh_shr32 (x : BitVec 32) (yk : IntKind) (m : Nat) : Op.shift .shr .u32 (n32 x) yk (m : Int) = pure (.int .u32 (n32 (x >>> m))) := shrl32 x yk m
theorem un_neg32 (x : BitVec 32) : Op.unary .neg (.int .u32 (n32 x)) = pure (.int .u32 (n32 (-x))) := by
  show Op.intArith .sub .u32 0 (n32 x) = _
  unfold Op.intArith
  rw [← neg32 x]; simp
theorem cm_lt32 (x y : BitVec 32) : decide (n32 x < n32 y) = decide (x < y) := by simp only [n32_lt]
theorem cm_le32 (x y : BitVec 32) : decide (n32 x ≤ n32 y) = decide (x ≤ y) := by rw [decide_eq_decide]; unfold n32; rw [BitVec.le_def]; omega
theorem get32 {xs : List (BitVec 32)} {m : Nat} (h : m < xs.length) : (xs.map b32)[m]? = some (b32 (ath xs m)) := by rw [List.getElem?_map, List.getElem?_eq_getElem h, ath_get xs m h]; rfl
theorem id32 (x : BitVec 32) : IntKind.u32.wrap (n32 x) = n32 x := in32 x
theorem nw32 (m : Nat) : IntKind.u32.wrap (m : Int) = n32 (BitVec.ofNat 32 m) := by rw [Bv.wrap32, BitVec.ofInt_natCast]
theorem ib_and64 (x y : BitVec 64) : Op.intBits .and .u64 (n64 x) (n64 y) = pure (.int .u64 (n64 (x &&& y))) := congrArg (fun z => (pure (Value.int .u64 z) : Sem Value)) (and64 x y)
theorem ib_or64 (x y : BitVec 64) : Op.intBits .or .u64 (n64 x) (n64 y) = pure (.int .u64 (n64 (x ||| y))) := congrArg (fun z => (pure (Value.int .u64 z) : Sem Value)) (or64 x y)
theorem ib_xor64 (x y : BitVec 64) : Op.intBits .xor .u64 (n64 x) (n64 y) = pure (.int .u64 (n64 (x ^^^ y))) := congrArg (fun z => (pure (Value.int .u64 z) : Sem Value)) (xor64 x y)
theorem ib_andNot64 (x y : BitVec 64) : Op.intBits .andNot .u64 (n64 x) (n64 y) = pure (.int .u64 (n64 (x &&& ~~~y))) := congrArg (fun z => (pure (Value.int .u64 z) : Sem Value)) (andNot64 x y)
theorem sh_shl64 (x : BitVec 64) (yk : IntKind) (m : Nat) : Op.shift .shl .u64 (n64 x) yk (m : Int) = pure (.int .u64 (n64 (x <<< m))) := shll64 x yk m
theorem sh_shr64 (x : BitVec 64) (yk : IntKind) (m : Nat) : Op.shift .shr .u64 (n64 x) yk (m : Int) = pure (.int .u64 (n64 (x >>> m))) := shrl64 x yk m
theorem un_neg64 (x : BitVec 64) : Op.unary .neg (.int .u64 (n64 x)) = pure (.int .u64 (n64 (-x))) := by
  show Op.intArith .sub .u64 0 (n64 x) = _
  unfold Op.intArith
  rw [← neg64 x]; simp
theorem cm_lt64 (x y : BitVec 64) : decide (n64 x < n64 y) = decide (x < y) := by simp only [n64_lt]
theorem cm_le64 (x y : BitVec 64) : decide (n64 x ≤ n64 y) = decide (x ≤ y) := by rw [decide_eq_decide]; unfold n64; rw [BitVec.le_def]; omega
theorem get64 {xs : List (BitVec 64)} {m : Nat} (h : m < xs.length) : (xs.map b64)[m]? = some (b64 (ath xs m)) := by rw [List.getElem?_map, List.getElem?_eq_getElem h, ath_get xs m h]; rfl
theorem id64 (x : BitVec 64) : IntKind.u64.wrap (n64 x) = n64 x := in64 x
theorem nw64 (m : Nat) : IntKind.u64.wrap (m : Int) = n64 (BitVec.ofNat 64 m) := by rw [Bv.wrap64, BitVec.ofInt_natCast]
theorem na_i64 {a b : Nat} (h : a + b ≤ 9223372036854775807) : IntKind.i64.wrap ((a : Int) + (b : Int)) = ((a + b : Nat) : Int) := by rw [IntKind.wrap_i64]; omega
theorem ns_i64 {a b : Nat} (h : b ≤ a) (h2 : a ≤ 9223372036854775807) : IntKind.i64.wrap ((a : Int) - (b : Int)) = ((a - b : Nat) : Int) := by rw [IntKind.wrap_i64]; omega
theorem nm_i64 {a b : Nat} (h : a * b ≤ 9223372036854775807) : IntKind.i64.wrap ((a : Int) * (b : Int)) = ((a * b : Nat) : Int) := by
  have e : (a : Int) * (b : Int) = ((a * b : Nat) : Int) := by simp
  rw [e]; generalize a * b = q at h; rw [IntKind.wrap_i64]; omega
theorem ni_i64 {a : Nat} (h : a ≤ 9223372036854775807) : IntKind.i64.wrap (a : Int) = (a : Int) := by rw [IntKind.wrap_i64]; omega
theorem ni_u64 {a : Nat} (h : a ≤ 18446744073709551615) : IntKind.u64.wrap (a : Int) = (a : Int) := by simp [IntKind.wrap, IntKind.bits, IntKind.signed]; omega
theorem ni_u32 {a : Nat} (h : a ≤ 4294967295) : IntKind.u32.wrap (a : Int) = (a : Int) := by simp [IntKind.wrap, IntKind.bits, IntKind.signed]; omega
theorem ni_u8 {a : Nat} (h : a ≤ 255) : IntKind.u8.wrap (a : Int) = (a : Int) := by simp [IntKind.wrap, IntKind.bits, IntKind.signed]; omega
theorem na_u64 {a b : Nat} (h : a + b ≤ 18446744073709551615) : IntKind.u64.wrap ((a : Int) + (b : Int)) = ((a + b : Nat) : Int) := by rw [show (a : Int) + b = ((a + b : Nat) : Int) by omega]; exact ni_u64 h
theorem nm_u64 {a b : Nat} (h : a * b ≤ 18446744073709551615) : IntKind.u64.wrap ((a : Int) * (b : Int)) = ((a * b : Nat) : Int) := by rw [show (a : Int) * b = ((a * b : Nat) : Int) by simp]; exact ni_u64 h
theorem nc_lt {a b : Nat} : decide ((a : Int) < (b : Int)) = decide (a < b) := by rw [decide_eq_decide]; omega
theorem nc_le {a b : Nat} : decide ((a : Int) ≤ (b : Int)) = decide (a ≤ b) := by rw [decide_eq_decide]; omega
theorem nc_eq {a b : Nat} : ((a : Int) == (b : Int)) = (a == b) := by rw [Bool.eq_iff_iff]; simp; omega
theorem nc_ne {a b : Nat} : ((a : Int) != (b : Int)) = (a != b) := by simp only [bne, nc_eq]
theorem zc_u64 (z : Int) : IntKind.u64.wrap z = n64 (BitVec.ofInt 64 z) := Bv.wrap64 z
theorem zc_u32 (z : Int) : IntKind.u32.wrap z = n32 (BitVec.ofInt 32 z) := Bv.wrap32 z
theorem zc_u8 (z : Int) : IntKind.u8.wrap z = n8 (BitVec.ofInt 8 z) := Bv.wrap8 z
theorem nmax {k : IntKind} {a b : Nat} : Value.int k (if (a : Int) < (b : Int) then (b : Int) else (a : Int)) = .int k ((max a b : Nat) : Int) := by congr 1; split <;> omega
theorem nmin {k : IntKind} {a b : Nat} : Value.int k (if (b : Int) < (a : Int) then (b : Int) else (a : Int)) = .int k ((min a b : Nat) : Int) := by congr 1; split <;> omega
theorem nat64 {m : Nat} (h : m ≤ 18446744073709551615) : Value.int .u64 (m : Int) = b64 (BitVec.ofNat 64 m) := by
  show Value.int .u64 _ = Value.int .u64 _
  congr 1; unfold n64; rw [BitVec.toNat_ofNat]; omega
theorem nat32 {m : Nat} (h : m ≤ 4294967295) : Value.int .u32 (m : Int) = b32 (BitVec.ofNat 32 m) := by
  show Value.int .u32 _ = Value.int .u32 _
  congr 1; unfold n32; rw [BitVec.toNat_ofNat]; omega
theorem nat8 {m : Nat} (h : m ≤ 255) : Value.int .u8 (m : Int) = b8 (BitVec.ofNat 8 m) := by
  show Value.int .u8 _ = Value.int .u8 _
  congr 1; unfold n8; rw [BitVec.toNat_ofNat]; omega
theorem n64i {x : BitVec 64} (h : x.toNat ≤ 9223372036854775807) : IntKind.i64.wrap (n64 x) = ((x.toNat : Nat) : Int) := by unfold n64; exact ni_i64 h
theorem n32i {x : BitVec 32} : IntKind.i64.wrap (n32 x) = ((x.toNat : Nat) : Int) := by unfold n32; exact ni_i64 (by have := x.isLt; omega)
theorem n8i {x : BitVec 8} : IntKind.i64.wrap (n8 x) = ((x.toNat : Nat) : Int) := by unfold n8; exact ni_i64 (by have := x.isLt; omega)
theorem own_one {x : HA} {w : World} (hx : x.ok w) (hb : x.outB = true) (ho : x.rids = []) : Own x.ids [x] w := by
  refine ⟨fun y hy => by rw [List.mem_singleton] at hy; subst hy; cases y <;> first | exact ⟨rfl, rfl⟩ | (cases hb; done), fun y hy => by rw [List.mem_singleton] at hy; subst hy; exact hx, fun y hy k hk => ?_, ?_, fun y hy z hz r hr => ?_⟩
  · rw [List.mem_singleton] at hy; subst hy
    cases y <;> first | exact hk | (cases hb; done) | (simp only [HA.rids] at ho; simp only [HA.frs] at hk; rw [ho] at hk; cases hk)
  · cases x <;> simp [HA.ids]
    rename_i v _ _ _ _
    cases v.ownBlock <;> simp
  · rw [List.mem_singleton] at hy; subst hy; rw [ho] at hr; cases hr
def rdB : HA → Bool
  | .rd _ _ _ _ _ => true
  | .all _ => true
  | _ => false
theorem own_rds {h : List HA} {w : World} (hh : HOK h w) (hb : h.all rdB = true) : Own [] h w := by
  have key : ∀ x ∈ h, x.frs = [] ∧ x.ids = [] := fun x hx => by
    have := List.all_eq_true.1 hb x hx
    cases x <;> first | exact ⟨rfl, rfl⟩ | (cases this; done)
  refine ⟨fun x hx => (by have := List.all_eq_true.1 hb x hx; cases x <;> first | exact ⟨rfl, rfl⟩ | (cases this; done)), hh, fun x hx k hk => (by rw [(key x hx).1] at hk; cases hk), ?_, fun x _ y hy r _ => by rw [(key y hy).2]; simp⟩
  have : h.flatMap HA.ids = [] := List.flatMap_eq_nil_iff.2 fun x hx => (key x hx).2
  rw [this]; exact List.nodup_nil
theorem src_full {h : List HA} {g z n c : Nat} {e : TypeId} {cs : List Value} (i : Nat) (hi : h[i]? = some (.blk g e cs)) (hl : cs.length = n * z) (hc : n ≤ c) (hm : c ≤ 9223372036854775807) : Src h (some ⟨g, 0, none⟩) z n c cs :=
  src_blk i hi hl (by rw [List.drop_zero, ← hl]; exact List.take_length) hc hm
theorem src_sub {h : List HA} {β : Type} {f : β → Value} {xs : List β} {g m n c : Nat} {e : TypeId} (i : Nat) (hi : h[i]? = some (.blk g e (xs.map f))) (hn : m + n ≤ xs.length) (hc : n ≤ c) (hm : c ≤ 9223372036854775807) : Src h (some ⟨g, m, none⟩) 1 n c (((xs.drop m).take n).map f) :=
  src_blk i hi (by simp; omega) (by rw [Nat.mul_one, List.map_take, List.map_drop]) hc hm
def pat (L : List Pt) (j : Nat) : Pt := L.getD j ⟨none, 0, 0, []⟩
theorem pat_mem {L : List Pt} {j : Nat} (h : j < L.length) : pat L j ∈ L := by unfold pat; rw [List.getD_eq_getElem?_getD, List.getElem?_eq_getElem h]; simp
theorem pat_get {L : List Pt} {j : Nat} (h : j < L.length) : (L.map Pt.sl)[j]? = some (.slice (pat L j).A (pat L j).n (pat L j).c) := by
  unfold pat; rw [List.getElem?_map, List.getD_eq_getElem?_getD, List.getElem?_eq_getElem h]; rfl
/-- All bytes, one behind the other. -/
def catp (L : List Pt) : List (BitVec 8) := L.flatMap (·.xs)
theorem catp_take {L : List Pt} {j : Nat} (h : j < L.length) : catp (L.take (j + 1)) = catp (L.take j) ++ (pat L j).xs := by
  unfold catp pat
  rw [List.take_succ_eq_append_getElem h, List.flatMap_append, List.getD_eq_getElem?_getD, List.getElem?_eq_getElem h]
  simp
theorem catp_le (L : List Pt) (j : Nat) : (catp (L.take j)).length ≤ (catp L).length := by
  have : catp L = catp (L.take j) ++ catp (L.drop j) := by unfold catp; rw [← List.flatMap_append, List.take_append_drop]
  rw [this, List.length_append]; omega
theorem T_ofall {X : Cx} {s : List (Nat × Value)} {h : List HA} {J : Jd} (i : Nat) {L : List Pt} (hi : h[i]? = some (.all L)) {p : Pt} (hp : p ∈ L) (hh : p.xs.length = p.n → p.n ≤ p.c → Tr X s (.rd p.A 1 p.n p.c (p.xs.map b8) :: h) J) : Tr X s h J := fun a w st => by
  have hm := List.mem_of_getElem? hi
  have hx : (HA.all L).ok w := st.ok _ hm
  have h1 := hx p hp
  have hr : ∀ r ∈ (HA.rd p.A 1 p.n p.c (p.xs.map b8)).rids, r ∈ (HA.all L).rids := fun r hr => List.mem_flatMap.2 ⟨p, hp, hr⟩
  refine hh (by have := h1.1.len; simpa using this) h1.1.le a w ⟨st.sz, st.df, st.sl, st.kp, ?_, st.ll, ?_, by simpa [HA.ids] using st.nd, ?_, ?_, ?_, ⟨st.rk.1, ?_⟩⟩
  · intro x hx'
    rcases List.mem_cons.1 hx' with rfl | hx'
    · exact h1
    · exact st.ok x hx'
  · intro x hx' k hk
    rcases List.mem_cons.1 hx' with rfl | hx'
    · cases hk
    · exact st.fr x hx' k hk
  · intro x hx' y hy r hrr hry
    rcases List.mem_cons.1 hy with rfl | hy
    · cases hry
    · rcases List.mem_cons.1 hx' with rfl | hx'
      · exact st.dj _ hm y hy r (hr r hrr) hry
      · exact st.dj x hx' y hy r hrr hry
  · intro x hx' q hq y hy hyb hqr
    rcases List.mem_cons.1 hx' with rfl | hx'
    · cases hq
    · rcases List.mem_cons.1 hy with rfl | hy
      · exact st.iv x hx' q hq _ hm rfl (hr q hqr)
      · exact st.iv x hx' q hq y hy hyb hqr
  · intro x hx' B hB
    rcases List.mem_cons.1 hx' with rfl | hx'
    · cases hB
    · exact st.ib x hx' B hB
  · intro x hx' r hrr
    rcases List.mem_cons.1 hx' with rfl | hx'
    · exact st.rk.2 _ hm r (hr r hrr)
    · exact st.rk.2 x hx' r hrr
theorem pr_cap_sl {P : Program} {s : List (Nat × Value)} {h : List HA} {o : Oper} {x : Operand} {t e' : TypeId} {A : Option Addr} {n c : Nat} (ht : P.underlying t = some (.slice e')) (ho : o.op = .call { callee := .builtin .cap, args := #[x], argTypes := #[t] }) (hx : ev s x = some (.slice A n c)) : Pr P s h o (.int .i64 (c : Int)) := fun e he w hw w' => by
  unfold execOp; rw [ho]; simp [he _ _ hx, resolve, invoke, builtin, Builtin.cap_, run_underlying ht, goInt]
/-- s[:k] of a row of the call's own. -/
theorem op_reslice {X : Cx} {s : List (Nat × Value)} {h : List HA} {P : Program} {o : Oper} {K K0 : Jd} {d : Nat} {t e e2 : TypeId} {x hi : Operand} {A : Option Addr} {z n c u : Nat} {zs : List Value} {k2 : IntKind} (i : Nat) (hi' : h[i]? = some (.row (.slice A n c) e2 z n zs)) (hun : u ≤ n) (ht : P.underlying t = some (.slice e)) (hz : (P.info? e).map (·.size) = some z)
    (ho : o.op = .slice t x none (some hi) none) (hx : ev s x = some (.slice A n c)) (hu : ev s hi = some (.int k2 (u : Int))) (hd : o.dst = some d) (hN : Nat.blt d X.N = true)
    (hh : Tr X ((d, .slice A u c) :: s) (.row (.slice A u c) e2 z u (zs.take (u * z)) :: h.eraseIdx i) K) : Tr X s h (Op P o K K0) := fun a w st => by
  have hown : w.ownsRow 0 e2 z (.slice A n c) n zs := st.ok _ (List.mem_of_getElem? hi')
  have hnc : n ≤ c := (src_row i hi' w st.ok).1.le
  have hr : (execOp a.eval o).run P w = .ok (.value (.slice A u c)) w := by
    have g1 : (0 : Int) ≤ (u : Int) ∧ (u : Int) ≤ c := by omega
    have g4 : u ≤ c := by omega
    have g5 : ¬ c < u := by omega
    unfold execOp; rw [ho]
    cases A with
    | none => simp [st.ag _ _ hx, st.ag _ _ hu, Instr.sliceAt, run_underlying ht, Instr.slice, Instr.sliceBounds, Instr.sliceBound, asIntOf, g1, g4, g5, run_sizeOf hz]
    | some ad => simp [st.ag _ _ hx, st.ag _ _ hu, Instr.sliceAt, run_underlying ht, Instr.slice, Instr.sliceBounds, Instr.sliceBound, asIntOf, g1, g4, g5, run_sizeOf hz, add0]
  refine op_val hr ?_
  rw [hd]
  have hown2 : w.ownsRow 0 e2 z (.slice A u c) u (zs.take (u * z)) := by
    obtain ⟨hl, h1 | ⟨g, cap, cur, hv, hb, hg, h2, h3, h4, h5⟩⟩ := hown
    · obtain ⟨h2, h3⟩ := h1
      obtain rfl : u = 0 := by omega
      refine ⟨by simp, .inl ⟨?_, rfl⟩⟩
      cases h2; rfl
    · cases hv
      have hle : u * z ≤ n * z := Nat.mul_le_mul_right z hun
      refine ⟨by rw [List.length_take, hl]; omega, .inr ⟨g, c, cur, rfl, Nat.zero_le _, hg, by omega, h3, h4, ?_⟩⟩
      rw [← h5, List.take_take, Nat.min_eq_left hle]
  refine hh _ _ (st.swapv [.row (.slice A n c) e2 z n zs] (h.eraseIdx i) [.row (.slice A u c) e2 z u (zs.take (u * z))] (perm_erase h i _ hi') hN _ (Keep.refl _ _) ?_ ?_ ?_ ?_)
  · intro x hx; rw [List.mem_singleton] at hx; subst hx; exact hown2
  · intro x hx k hk; rw [List.mem_singleton] at hx; subst hx
    refine .inl ?_
    cases A with
    | none => cases hk
    | some ad => simpa [HA.ids, HA.frs, Value.ownBlock] using hk
  · cases A <;> simp [HA.ids, Value.ownBlock]
  · intro x hx r hr; rw [List.mem_singleton] at hx; subst hx; cases hr
theorem hok_nil (w : World) : HOK [] w := by intro x hx; cases hx
theorem hok_cons {x : HA} {h : List HA} {w : World} (hx : x.ok w) (hh : HOK h w) : HOK (x :: h) w := by
  intro y hy
  rcases List.mem_cons.1 hy with rfl | hy
  · exact hx
  · exact hh y hy
/-- A list copied over a part of another one. -/
def cop {α : Type} (xs : List α) (m : Nat) (ys : List α) (k : Nat) : List α := xs.take m ++ ys.take k ++ xs.drop (m + (ys.take k).length)
theorem cop_map {α : Type} {f : α → Value} (xs : List α) (m : Nat) (ys : List α) (k : Nat) : (xs.map f).take m ++ (ys.map f).take k ++ (xs.map f).drop (m + ((ys.map f).take k).length) = (cop xs m ys k).map f := by
  unfold cop; simp [List.map_take, List.map_drop]
theorem un_negi {a : Nat} (h : a ≤ 9223372036854775807) : Op.unary .neg (.int .i64 (a : Int)) = pure (.int .i64 (-(a : Int))) := by
  show Op.intArith .sub .i64 0 (a : Int) = _
  unfold Op.intArith
  have : IntKind.i64.wrap (0 - (a : Int)) = -(a : Int) := by rw [IntKind.wrap_i64]; omega
  simp only [this]
theorem zmax0 {z : Int} (h : z < 0) : Value.int .i64 (if z < 0 then 0 else z) = .int .i64 ((0 : Nat) : Int) := by rw [if_pos h]; rfl
theorem zmax0' {z : Int} (h : z < 0) : Value.int .i64 (if (0 : Int) < z then z else 0) = .int .i64 ((0 : Nat) : Int) := by rw [if_neg (by omega)]; rfl
theorem chunk_lt (z n k : Nat) (hz : 0 < z) (h : z * k < n) : k < (n + z - 1) / z := by
  rw [Nat.lt_div_iff_mul_lt hz]
  have : k * z = z * k := Nat.mul_comm k z
  omega
theorem chunk_le (z n k : Nat) (hz : 0 < z) (h : z * k < n) : k + 1 ≤ (n + z - 1) / z := chunk_lt z n k hz h
theorem chunk_ge (z n k : Nat) (hz : 0 < z) (hk : k ≤ (n + z - 1) / z) (h : ¬ z * k < n) : k = (n + z - 1) / z := by
  apply Nat.le_antisymm hk
  apply Nat.le_of_lt_succ
  rw [Nat.div_lt_iff_lt_mul hz, Nat.succ_mul, Nat.mul_comm k z]
  omega
theorem chunk_mul (z n k : Nat) (hz : 0 < z) (hk : k ≤ (n + z - 1) / z) : z * k ≤ n + z := by
  have := Nat.mul_le_mul_left z hk
  have h2 := Nat.mul_div_le (n + z - 1) z
  omega
theorem rot_and (k : Int) (s : Nat) (hs : s < 32) (hk : k % 32 = s) : BitVec.ofInt 64 k &&& 31#64 = BitVec.ofNat 64 s := by
  apply BitVec.eq_of_toNat_eq
  rw [BitVec.toNat_and, BitVec.toNat_ofInt, BitVec.toNat_ofNat, BitVec.toNat_ofNat]
  rw [show 31 % 2 ^ 64 = 2 ^ 5 - 1 from rfl, Nat.and_two_pow_sub_one_eq_mod]
  omega
theorem pr_as {P : Program} {s : List (Nat × Value)} {h : List HA} {o : Oper} {v v' : Value} (hp : Pr P s h o v) (e : v = v') : Pr P s h o v' := e ▸ hp
theorem agg_all {cs : List Value} : (cs.drop 0).take cs.length = cs := by simp
end Go.Proofs.YtlplpmkdebemnaaDoor.Fw
namespace Go.Proofs.YtlplpmkdebemnaaDoor.Fw
set_option linter.unusedVariables false
set_option linter.unusedSimpArgs false
open Go.RowKit Bv
theorem zeroCells_list (z : Value) (n : Nat) (hz : z.cells = #[z]) : Builtin.zeroCells z.cells n = (List.replicate n z).toArray := by
  rw [hz]
  apply Array.ext
  · simp [Builtin.zeroCells]
  · intro i h1 h2; simp [Builtin.zeroCells, Nat.mod_one]
section
variable {P : Program} {X : Cx} {s : List (Nat × Value)} {h : List HA} {a : Act} {w : World} {o : Oper} {K K0 : Jd} {v : Value}
/-- append of so many zeros. -/
theorem run_app0 {t ti ty e : TypeId} {ik : IntKind} {i : TypeInfo} {z : Value} {bytes : Nat} (w : World) (ht : P.underlying t = some (.slice e)) (hti : P.underlying ti = some (.int ik)) (hi : P.info? e = some i) (hz : i.zero = some z)
    (hsize : i.size = 1) (hby : i.bytes = bytes) (hzs : z.cells = #[z]) (hz1 : z.oneCell' = true) {v : Value} {n : Nat} {xs : List Value} (hown : w.ownsRow 0 e 1 v n xs) (m : Nat)
    (h63 : n + m ≤ 9223372036854775807) (hbytes : (n + m) * bytes ≤ 140737488355328) :
    ∃ A' c' w', (Builtin.append_ #[t, ti] ty #[v, .int .i64 (m : Int)]).run P w = .ok (.slice A' (n + m) c') w' ∧ w'.ownsRow 0 e 1 (.slice A' (n + m) c') (n + m) (xs ++ List.replicate m z) ∧ w.grownBy w' v.ownBlock ∧ (∀ k, (Value.slice A' (n + m) c').ownBlock = some k → v.ownBlock = some k ∨ w.heap.size ≤ k) := by
  subst hby
  have hw : IntKind.i64.wrap (m : Int) = (m : Int) := by rw [IntKind.wrap_i64]; omega
  have hm0 : ¬ (m : Int) < 0 := by omega
  have hw0 : IntKind.i64.wrap (0 : Int) = 0 := by rw [IntKind.wrap_i64]; omega
  have hmb : ¬ (281474976710656 < (m : Int) * (i.bytes : Int)) := by
    have h1 : m * i.bytes ≤ (n + m) * i.bytes := Nat.mul_le_mul_right _ (by omega)
    have h2 : (m : Int) * (i.bytes : Int) = ((m * i.bytes : Nat) : Int) := by simp
    rw [h2]; omega
  have hzl : ∀ u ∈ List.replicate m z, u.oneCell' = true := fun u hu => by rw [(List.mem_replicate.1 hu).2]; exact hz1
  rcases hown.2 with ⟨rfl, rfl⟩ | ⟨g, cap, cur, rfl, -, hgb, hnc, hcm, hcs, htake⟩
  · have hx : xs = [] := List.eq_nil_of_length_eq_zero (by simpa using hown.1)
    subst hx
    by_cases hm : m = 0
    · subst hm
      refine ⟨none, 0, w, ?_, World.ownsRow_nil w 0 e 1, World.grownBy.refl _ _, (fun k hk => by cases hk)⟩
      simp [Builtin.append_, run_underlying ht, run_underlying hti, sizeOf, typeInfo, hi, hsize, asInt, asIntOf, hw0]
    · have hn : ¬ m ≤ 0 := by omega
      have h63' : ¬ (9223372036854775807 < (m : Int)) := by omega
      have h48 : ¬ (281474976710656 < Builtin.nextslicecap m 0 * i.bytes) := by
        have := nextslicecap_zero (need := m) (by omega); rw [this]
        rw [Nat.zero_add] at hbytes
        omega
      refine ⟨some ⟨w.heap.size, 0, none⟩, grownCap w m 0 e, w.drew.alloc (.cells ((List.replicate m z).toArray ++ Builtin.zeroCells z.cells (grownCap w m 0 e - m)) e), ?_, ?_, ⟨rfl, rfl, rfl, by simp, fun k hk _ => Below.heap_alloc w.drew _ k hk⟩, fun k hk => .inr (by simp [Value.ownBlock] at hk; omega)⟩
      · simp [Builtin.append_, run_underlying ht, run_underlying hti, sizeOf, typeInfo, zeroValue, hi, hz, hsize, asInt, asIntOf, hw, hm0, hmb, hm, hn, h63', h48, Builtin.firstCells, Question.forced, newRow, grownCap, zeroCells_list z _ hzs]
      · have hge := grownCap_ge w m 0 e
        have hcm := grownCap_le_maxLen w m 0 e (by unfold maxLen; omega)
        refine ⟨by simp, .inr ⟨w.heap.size, _, _, by rw [Nat.zero_add], Nat.zero_le _, heap_alloc_new w.drew _, by omega, hcm, ?_, ?_⟩⟩
        · rw [zeroCells_list z _ hzs]; simp; omega
        · rw [zeroCells_list z _ hzs]; simp
  · by_cases hroom : n + m ≤ cap
    · have hst := run_storeCells_at (P := P) g n e (List.replicate m z) 0 cur w hgb (by simp; omega) hzl
      simp only [Nat.add_zero] at hst
      refine ⟨some ⟨g, 0, none⟩, cap, w.setRow g (cur.toList.take n ++ List.replicate m z ++ cur.toList.drop (n + (List.replicate m z).length)).toArray, ?_, ?_, ⟨rfl, rfl, rfl, by simp, fun k _ hk => setRow_other w g k _ (fun e => hk (by simp [Value.ownBlock, e]))⟩, fun k hk => .inl hk⟩
      · by_cases hm : m = 0
        · subst hm
          have hst0 : (storeCells (⟨g, n, none⟩ : Addr) []).run P w = .ok () (w.setRow g (cur.toList.take n ++ List.replicate 0 z ++ cur.toList.drop (n + (List.replicate 0 z).length)).toArray) := hst
          have hcn : ¬ cap < n := by omega
          have hcn2 : n ≤ cap := by omega
          simp [Addr.add_lit] at hst0
          simp [Builtin.append_, run_underlying ht, run_underlying hti, sizeOf, typeInfo, zeroValue, hi, hz, hsize, asInt, asIntOf, hw0, hcn, hcn2, Addr.add_lit, hst0]
        · simp [Builtin.append_, run_underlying ht, run_underlying hti, sizeOf, typeInfo, zeroValue, hi, hz, hsize, asInt, asIntOf, hw, hm0, hmb, hm, hroom, zeroCells_list z _ hzs, Addr.add_lit, hst]
      · refine ⟨?_, .inr ⟨g, cap, _, rfl, Nat.zero_le _, setRow_heap w g cur _ e _ hgb, hroom, hcm, ?_, ?_⟩⟩
        · have := hown.1; simp at this ⊢; omega
        · simp; omega
        · have hl : xs.length = n := by simpa using hown.1
          have hx : cur.toList.take n = xs := by simpa using htake
          simp only [List.toList_toArray, hx]
          rw [List.append_assoc, Nat.mul_one, show n + m = (xs ++ List.replicate m z).length by simp [hl], ← List.append_assoc]
          exact List.take_left
    · have hn : ¬ m = 0 := by omega
      have h63' : ¬ (9223372036854775807 < ((n : Int) + (m : Int))) := by omega
      have h48 : ¬ (281474976710656 < Builtin.nextslicecap (n + m) cap * i.bytes) := by
        have := growslice_fits (bytes := i.bytes) (need := n + m) (old := cap) (by omega) hbytes; omega
      have hf := run_firstCells_some (P := P) w.drew 1 n ⟨g, 0, none⟩ n cap xs hown.1 (by simpa using hown.cells (g := g) rfl)
      refine ⟨some ⟨w.heap.size, 0, none⟩, grownCap w (n + m) cap e, w.drew.alloc (.cells (xs.toArray ++ (List.replicate m z).toArray ++ Builtin.zeroCells z.cells (grownCap w (n + m) cap e - (n + m))) e), ?_, ?_, ⟨rfl, rfl, rfl, by simp, fun k hk _ => Below.heap_alloc w.drew _ k hk⟩, fun k hk => .inr (by simp [Value.ownBlock] at hk; omega)⟩
      · simp [Builtin.append_, run_underlying ht, run_underlying hti, sizeOf, typeInfo, zeroValue, hi, hz, hsize, asInt, asIntOf, hw, hm0, hmb, hn, hroom, h63', h48, Question.forced, newRow, grownCap, zeroCells_list z _ hzs, hf]
      · have hge := grownCap_ge w (n + m) cap e
        have hcm := grownCap_le_maxLen w (n + m) cap e (by unfold maxLen; omega)
        have hl : xs.length = n := by simpa using hown.1
        refine ⟨by simp [hl], .inr ⟨w.heap.size, _, _, rfl, Nat.zero_le _, heap_alloc_new w.drew _, hge, hcm, ?_, ?_⟩⟩
        · rw [zeroCells_list z _ hzs]; simp [hl]; omega
        · rw [zeroCells_list z _ hzs]
          simp only [Array.toList_append, List.toList_toArray, Nat.mul_one]
          rw [show n + m = (xs ++ List.replicate m z).length by simp [hl]]
          exact List.take_left
theorem op_append0 {d : Nat} {t ti e : TypeId} {ik : IntKind} {x y : Operand} {z : Value} {bytes n m : Nat} {xs : List Value} (i : Nat) (hi : h[i]? = some (.row v e 1 n xs)) (ht : P.underlying t = some (.slice e)) (hti : P.underlying ti = some (.int ik)) (hin : (P.info? e).map (fun i => (i.zero, i.size, i.bytes)) = some (some z, 1, bytes)) (hzs : z.cells = #[z]) (hz1 : z.oneCell' = true)
    (h63 : n + m ≤ 9223372036854775807) (hbytes : (n + m) * bytes ≤ 140737488355328)
    (ho : o.op = .call { callee := .builtin .append, args := #[x, y], argTypes := #[t, ti] }) (hx : ev s x = some v) (hy : ev s y = some (.int .i64 (m : Int))) (hd : o.dst = some d) (hN : Nat.blt d X.N = true)
    (hh : ∀ A' c', Tr X ((d, .slice A' (n + m) c') :: s) (.row (.slice A' (n + m) c') e 1 (n + m) (xs ++ List.replicate m z) :: h.eraseIdx i) K) : Tr X s h (Op P o K K0) := fun a w st => by
  obtain ⟨tinf, hi1, hi2⟩ := Option.map_eq_some_iff.1 hin
  simp only [Prod.mk.injEq] at hi2
  obtain ⟨hz, hsize, hby⟩ := hi2
  have hown : w.ownsRow 0 e 1 v n xs := st.ok _ (List.mem_of_getElem? hi)
  obtain ⟨A', c', w', hr, ho', hg', hb'⟩ := run_app0 (P := P) (ty := o.type) w ht hti hi1 hz hsize hby hzs hz1 hown m h63 hbytes
  have hr' : (execOp a.eval o).run P w = .ok (.value (.slice A' (n + m) c')) w' := by
    unfold execOp
    rw [ho]
    simp [resolve, invoke, builtin, st.ag _ _ hx, st.ag _ _ hy, hr]
  refine op_val hr' ?_
  rw [hd]
  refine hh A' c' _ _ (st.swapv [.row v e 1 n xs] (h.eraseIdx i) [.row (.slice A' (n + m) c') e 1 (n + m) (xs ++ List.replicate m z)] (perm_erase h i _ hi) hN _ ?_ ?_ ?_ ?_ ?_)
  · have := Keep.of_grown hg'; simpa [HA.ids] using this
  · intro x hx; rw [List.mem_singleton] at hx; subst hx; exact ho'
  · intro x hx k hk; rw [List.mem_singleton] at hx; subst hx
    have := hb' k (by simpa [HA.frs] using hk)
    exact this.imp (fun h => by simp [HA.ids, h]) id
  · simp only [List.flatMap_cons, List.flatMap_nil, List.append_nil, HA.ids]
    cases (Value.slice A' (n + m) c').ownBlock <;> simp
  · intro x hx r hr; rw [List.mem_singleton] at hx; subst hx; cases hr
/-- copy into a block of the call's own. -/
theorem op_copy {d : Nat} {t t2 e e2 : TypeId} {x y : Operand} {g m n c k c2 : Nat} {A : Option Addr} {cs news cs' : List Value} (i : Nat) (hi : h[i]? = some (.blk g e2 cs)) (ht : P.underlying t = some (.slice e)) (hz : (P.info? e).map (·.size) = some 1)
    (hs : Src h A 1 k c2 news) (h1 : ∀ u ∈ news, u.oneCell' = true) (hm : m + min k n ≤ cs.length) (hc : cs.take m ++ news.take (min k n) ++ cs.drop (m + (news.take (min k n)).length) = cs')
    (ho : o.op = .call { callee := .builtin .copy, args := #[x, y], argTypes := #[t, t2] }) (hx : ev s x = some (.slice (some ⟨g, m, none⟩) n c)) (hy : ev s y = some (.slice A k c2)) (hd : o.dst = some d) (hN : Nat.blt d X.N = true)
    (hh : Tr X ((d, .int .i64 ((min k n : Nat) : Int)) :: s) (.blk g e2 cs' :: h.eraseIdx i) K) : Tr X s h (Op P o K K0) := fun a w st => by
  have hb : w.heap[g]? = some (.cells cs.toArray e2 (0, 0)) := st.ok _ (List.mem_of_getElem? hi)
  have hrd := (hs w st.ok).1
  have hl : (news.take (min k n)).length = min k n := by have := hrd.len; simp; omega
  have hfirst : (Builtin.firstCells 1 (min k n) (.slice A k c2)).run P w = .ok (news.take (min k n)).toArray w := by
    cases A with
    | none =>
      have h0 := hrd.isn rfl; have h2 := hrd.le; have h3 := hrd.len
      obtain rfl : k = 0 := by omega
      simp [Builtin.firstCells]
    | some ad =>
      have := run_firstCells_some (P := P) w 1 (min k n) ad k c2 (news.take (min k n)) (by simpa using hl) (fun j u hu => hrd.cells ad rfl j u (by rw [List.getElem?_take] at hu; split at hu; exact hu; cases hu))
      exact this
  have hst := run_storeCells_at (P := P) g m e2 (news.take (min k n)) 0 cs.toArray w hb (by simp only [Nat.add_zero, hl]; simpa using hm) (fun u hu => h1 u (List.mem_of_mem_take hu))
  simp only [Nat.add_zero] at hst
  have hr : (execOp a.eval o).run P w = .ok (.value (.int .i64 ((min k n : Nat) : Int))) (w.setRow g cs'.toArray) := by
    unfold execOp; rw [ho]
    have hmin : Nat.min k n = min k n := rfl
    simp only [resolve, invoke, builtin, Sem.run_bind, Sem.run_pure, Result.andThen_ok, List.map_toArray, List.map_cons, List.map_nil, st.ag _ _ hx, st.ag _ _ hy]
    simp only [Builtin.copy_, List.getElem?_toArray, List.getElem?_cons_zero, List.getElem?_cons_succ, Sem.run_bind, run_underlying ht, Result.andThen_ok, Builtin.lenOf, Sem.run_pure, run_sizeOf hz, hmin, hfirst, hst]
    subst hc
    simp [goInt]
  refine op_val hr ?_
  rw [hd]
  refine hh _ _ (st.swapv [.blk g e2 cs] (h.eraseIdx i) [.blk g e2 cs'] (perm_erase h i _ hi) hN _ ⟨⟨rfl, rfl, rfl, by simp⟩, fun k _ hk => setRow_other w g k _ (fun e => hk (by simp [HA.ids, e]))⟩ ?_ ?_ ?_ ?_)
  · intro x hx; rw [List.mem_singleton] at hx; subst hx; exact setRow_heap w g _ _ e2 _ hb
  · intro x hx k hk; rw [List.mem_singleton] at hx; subst hx; exact .inl (by simpa [HA.ids, HA.frs] using hk)
  · simp [HA.ids]
  · intro x hx r hr; rw [List.mem_singleton] at hx; subst hx; cases hr
end
end Go.Proofs.YtlplpmkdebemnaaDoor.Fw
namespace Go.Proofs.YtlplpmkdebemnaaDoor.Fw
set_option linter.unusedVariables false
set_option linter.unusedSimpArgs false
open Go.RowKit Bv
abbrev JJ := Nat → List Nat → List Nat → World → Prop
abbrev JX := List Nat → List Nat → World → Prop
/-- What a round owes to the sequence. -/
def YP (J : JJ) (Jx : JX) (k : Nat) (hd : List HA) (O R : List Nat) (W1 : World) (e : Ending) (W' : World) : Prop :=
  ∃ O' R', (∀ i ∈ O', i ∈ O ∨ W1.heap.size ≤ i) ∧ (∀ i ∈ R', i ∈ O ∨ i ∈ R ∨ i ∈ hd.flatMap HA.rids ∨ W1.heap.size ≤ i) ∧ Keep O W1 W' ∧ (∀ i ∈ O' ++ R', i < W'.heap.size) ∧
    ((e = .returned (.bool true) ∧ J (k + 1) O' R' W') ∨ (e = .returned (.bool false) ∧ Jx O' R' W'))
def Yls {Θ : Type} (P : Program) (l : Nat) (J : JJ) (Jx : JX) (nv : Nat) (xs : Nat → Θ → List Value) (hd : Nat → Θ → List HA) : Prop :=
  ∀ k θ O R W1 m, k < nv → J k O R W1 → HOK (hd k θ) W1 → (∀ x ∈ hd k θ, ∀ r ∈ x.rids, r ∉ O) → YieldAt Fence.wide m P l (xs k θ).toArray W1 (YP J Jx k (hd k θ) O R W1)
/-- A sequence: it tells nv things, one behind the other, as long as it is told to go on (E: it has no end; who ranges over it stops ahead of the nv-th). -/
def SeqX (E : Bool) {Θ : Type} (P : Program) (gf : FuncId) (cap : List Value) (rds : List HA) (nv : Nat) (xs : Nat → Θ → List Value) (hd : Nat → Θ → List HA) : Prop :=
  ∀ (l : Nat) (J : JJ) (Jx : JX) (W : World) (O R : List Nat) (m : Nat), HOK rds W → (∀ x ∈ rds, ∀ r ∈ x.rids, r ∉ O) → (∀ k O R, Stab W.heap.size (O ++ R) (J k O R)) → (∀ O R, Stab W.heap.size (O ++ R) (Jx O R)) → (∀ i ∈ O ++ R, i < W.heap.size) →
    Yls P l J Jx nv xs hd → (E = true → ∀ O R W, ¬ J nv O R W) → J 0 O R W →
    CallsIn Fence.wide m P gf (.func (.yield l) #[] #[] :: cap).toArray W (fun e W' => (∃ v, e = .returned v) ∧ ∃ O' R', (J nv O' R' W' ∨ Jx O' R' W'))
abbrev SeqC {Θ : Type} (P : Program) (gf : FuncId) (cap : List Value) (rds : List HA) (nv : Nat) (xs : Nat → Θ → List Value) (hd : Nat → Θ → List HA) : Prop := SeqX false P gf cap rds nv xs hd
def OpI (F : Fence) (n : Nat) (P : Program) (o : Oper) (K K0 : Jd) : Jd := fun a w => o.wpIn F n P a w K (QK K0)
def LsI (F : Fence) (n : Nat) (P : Program) (ops : Array Oper) (K : Jd) (os : List Oper) : Jd := fun a w => wpListIn F n P ops (QK K) os a w
def noDef (o : Oper) : Bool := match o.op with | .defer _ => false | _ => true
section
variable {F : Fence} {n : Nat} {P : Program} {X : Cx} {s : List (Nat × Value)} {h : List HA} {nrm ret K K0 : Jd} {ex : List (Nat × Jd)} {o : Oper} {ops : Array Oper}
theorem T_regI {id : Nat} {os : List Oper} (hh : Tr X s h (LsI F n P os.toArray nrm os)) : Tr X s h (Wp F n P ⟨nrm, ret, ex⟩ (.region id os.toArray false)) := fun a w st =>
  wpIn_mono (wpIn_region_lit (hh a w st)) (fun e a w hq => by cases e <;> first | exact hq | exact hq.elim)
theorem LI_nil (hh : Tr X s h K) : Tr X s h (LsI F n P ops K []) := fun a w st => hh a w st
theorem LI_op {os : List Oper} (hw : wantS ops s o = some true) (hh : Tr X s h (OpI F n P o (LsI F n P ops K os) K)) : Tr X s h (LsI F n P ops K (o :: os)) := fun a w st => by
  unfold LsI wpListIn
  rw [if_pos (wantS_spec st hw)]
  exact hh a w st
theorem opI {F : Fence} (hF : Wid F) (hd : noDef o = true) (hh : Tr X s h (Op P o K K0)) : Tr X s h (OpI F n P o K K0) := fun a w st => by
  rcases hF with rfl | ⟨l, rfl⟩
  · exact op_wide (hh a w st)
  · refine op_in (l := l) (fun c hc => ?_) (hh a w st)
    unfold noDef at hd; rw [hc] at hd; cases hd
theorem LI_opP {os : List Oper} (hF : Wid F) (hw : wantS ops s o = some true) (hd : noDef o = true) (hh : Tr X s h (Op P o (LsI F n P ops K os) K)) : Tr X s h (LsI F n P ops K (o :: os)) := LI_op hw (opI hF hd hh)
theorem LI_skip {os : List Oper} {d : Nat} (hF : Wid F) (hw : wantS ops s o = some false) (hd : o.dst = some d) (hN : Nat.blt d X.N = true) (hh : Tr X ((d, undef) :: s) h (LsI F n P ops K os)) : Tr X s h (LsI F n P ops K (o :: os)) := fun a w st => by
  unfold LsI wpListIn
  rw [if_neg (by rw [wantS_spec st hw]; exact Bool.false_ne_true), hd]
  refine ⟨fun f _ => ?_, hh _ w (st.put (Nat.le_of_ble_eq_true hN) undef)⟩
  rcases hF with rfl | ⟨l, rfl⟩ <;> trivial
/-- The sequence tells something. -/
theorem op_yield {Θ : Type} {l B nv k : Nat} {J : JJ} {Jx : JX} {O R : List Nat} {xs : Nat → Θ → List Value} {hd : Nat → Θ → List HA} (θ : Θ) (hy : Yls P l J Jx nv xs hd) (hk : k < nv) (hsJ : ∀ k O R, Stab B (O ++ R) (J k O R)) (hsX : ∀ O R, Stab B (O ++ R) (Jx O R)) (i : Nat) (hi : h[i]? = some (.inv B O R (J k O R))) (is : List Nat) (hp : PickM h is (hd k θ)) (hone : (h.eraseIdx i).all (fun x => x.bs.isNone) = true) (hdn : (hd k θ).all (fun x => x.bs.isNone) = true)
    {c : Operand} {ys : List Operand} {ts : Array TypeId} {d : Nat} (ho : o.op = .call { callee := .value c, args := ys.toArray, argTypes := ts }) (hc : ev s c = some (.func (.yield l) #[] #[])) (hys : ys.map (ev s) = (xs k θ).map some) (hds : o.dst = some d) (hN : Nat.blt d X.N = true) (hXw : X.w0.heap.size = 0) (hrs : ∀ r, X.rs r)
    (ht : ∀ O' R', Tr X ((d, .bool true) :: s) (.inv B O' R' (J (k + 1) O' R') :: h.eraseIdx i) K) (hf : ∀ O' R', Tr X ((d, .bool false) :: s) (.inv B O' R' (Jx O' R') :: h.eraseIdx i) K) : Tr X s h (OpI Fence.wide n P o K K0) := fun a w st => by
  have hinv : (HA.inv B O R (J k O R)).ok w := st.ok _ (List.mem_of_getElem? hi)
  have hmi := List.mem_of_getElem? hi
  have hdm : ∀ x ∈ hd k θ, x ∈ h := by
    intro x hx
    have : some x ∈ is.map (h[·]?) := by rw [hp]; exact List.mem_map.2 ⟨x, hx, rfl⟩
    obtain ⟨j, _, hj⟩ := List.mem_map.1 this
    exact List.mem_of_getElem? hj
  have hdb : ∀ x ∈ hd k θ, x.bs = none := fun x hx => by have := List.all_eq_true.1 hdn x hx; simpa using this
  obtain ⟨fn, tmps, assign, body, he, hr⟩ := hy k θ O R w (n - 1) hk hinv.1 (hp.hok st.ok) (fun x hx r hr hrO => st.iv _ hmi r hrO x (hdm x hx) (hdb x hx) hr)
  have key : ∀ (l : List Operand) (r : List Value), l.map (ev s) = r.map some → l.map a.eval = r := by
    intro l
    induction l with
    | nil => intro r hr; cases r with | nil => rfl | cons _ _ => simp at hr
    | cons b l ih => intro r hr; cases r with
      | nil => simp at hr
      | cons c r => simp only [List.map_cons, List.cons.injEq] at hr ⊢; exact ⟨st.ag _ _ hr.1, ih r hr.2⟩
  have hrun : (execOp a.eval o).run P w = .ok (.round l fn tmps assign body) w := by
    unfold execOp; rw [ho]
    simp [resolve, st.ag _ _ hc, Deferred.ofValue, invoke, key ys _ hys, he]
  refine ⟨fun f _ => trivial, ?_⟩
  rw [show Oper.semAt Fence.wide.round a.eval o = execOp a.eval o from rfl, hrun, Oper.uponIn_round]
  refine ⟨fun h => absurd h (by simp [Fence.wide]), hr.mono fun e W' hYP => ?_⟩
  obtain ⟨O', R', hO', hR', hkO, hlt, hend⟩ := hYP
  have hidO : ∀ y ∈ h, ∀ c ∈ y.ids, c ∉ O ++ R := fun y hy c hc hin => st.dj _ hmi y hy c hin hc
  have hperm := perm_erase h i _ hi
  have hsub : ∀ x, x ∈ h.eraseIdx i → x ∈ h := fun x hx => hperm.mem_iff.2 (List.mem_cons_of_mem _ hx)
  have hbn : ∀ x ∈ h.eraseIdx i, x.bs = none := fun x hx => by have := List.all_eq_true.1 hone x hx; simpa using this
  have hosn : ∀ x : HA, x.bs = none → x.os = [] := fun x hx => by cases x <;> first | rfl | (cases hx; done)
  obtain ⟨hC, hB⟩ := st.ib _ hmi B rfl
  have fin : ∀ (v : Value) (p : World → Prop), p W' → Stab B (O' ++ R') p → St X ((d, v) :: s) (.inv B O' R' p :: h.eraseIdx i) (a.put (some d) v) W' := by
    intro v p hpW hst
    have sp := st.put (Nat.le_of_ble_eq_true hN) v
    refine ⟨sp.sz, sp.df, sp.sl, ⟨st.kp.same.trans hkO.same, fun q hq => by omega⟩, ?_, ⟨st.ll.1, Nat.le_trans st.ll.2 hkO.same.size⟩, ?_, ?_, ?_, ?_, ?_, ⟨st.rk.1, fun x _ r _ => .inl (hrs r)⟩⟩
    · intro x hx
      rcases List.mem_cons.1 hx with rfl | hx
      · exact ⟨hpW, hst, hlt⟩
      · refine HA.ok_keep (st.ok x (hsub x hx)) hkO.same (fun c hc => hkO.block c (HA.lt (st.ok x (hsub x hx)) c hc) (fun hcO => ?_)) (fun B' hB' => by rw [hbn x hx] at hB'; cases hB')
        rcases List.mem_append.1 hc with hc | hc
        · exact hidO x (hsub x hx) c hc (List.mem_append.2 (.inl hcO))
        · exact st.iv _ hmi c hcO x (hsub x hx) (hbn x hx) hc
    · intro x hx c hc
      rcases List.mem_cons.1 hx with rfl | hx
      · cases hc
      · exact st.fr x (hsub x hx) c hc
    · have := (hperm.flatMap_right HA.ids).nodup_iff.1 st.nd
      simpa [HA.ids] using this
    · intro x hx y hy r hr hry
      have hyy : y ∈ h := by
        rcases List.mem_cons.1 hy with rfl | hy
        · cases hry
        · exact hsub y hy
      have hrlt := HA.lt (st.ok y hyy) r (List.mem_append.2 (.inl hry))
      rcases List.mem_cons.1 hx with rfl | hx
      · rcases List.mem_append.1 hr with hr | hr
        · rcases hO' r hr with h1 | h1
          · exact hidO y hyy r hry (List.mem_append.2 (.inl h1))
          · omega
        · rcases hR' r hr with h1 | h1 | h1 | h1
          · exact hidO y hyy r hry (List.mem_append.2 (.inl h1))
          · exact hidO y hyy r hry (List.mem_append.2 (.inr h1))
          · obtain ⟨z, hz, hzr⟩ := List.mem_flatMap.1 h1
            exact st.dj z (hdm z hz) y hyy r hzr hry
          · omega
      · exact st.dj x (hsub x hx) y hyy r hr hry
    · intro x hx q hq y hy hyb hqr
      rcases List.mem_cons.1 hx with rfl | hx
      · rcases List.mem_cons.1 hy with rfl | hy
        · cases hyb
        · rcases hO' q hq with h1 | h1
          · exact st.iv _ hmi q h1 y (hsub y hy) hyb hqr
          · have := HA.lt (st.ok y (hsub y hy)) q (List.mem_append.2 (.inr hqr)); omega
      · rw [hosn x (hbn x hx)] at hq; cases hq
    · intro x hx B' hB'
      rcases List.mem_cons.1 hx with rfl | hx
      · cases hB'; exact ⟨hC, hB⟩
      · rw [hbn x hx] at hB'; cases hB'
  rw [hds]
  rcases hend with ⟨rfl, hJ⟩ | ⟨rfl, hJ⟩
  · exact ht O' R' _ _ (fin _ _ hJ (hsJ _ _ _))
  · exact hf O' R' _ _ (fin _ _ hJ (hsX _ _))
end
/-- Where a sequence's function begins. -/
theorem enter_seq {E : Bool} {P : Program} {gf : FuncId} {fn : Func} {c : Code} {Θ : Type} {nv : Nat} {xs : Nat → Θ → List Value} {hd : Nat → Θ → List HA} {cap : List Value} {rds : List HA} (hf : P.funcs[gf]? = some fn) (hb : fn.body = some c) (hN : Nat.ble (cap.length + 1) fn.ntmps = true) (hrd : rds.all rdB = true)
    (hh : ∀ (l : Nat) (J : JJ) (Jx : JX) (W : World) (O R : List Nat), (∀ k O R, Stab W.heap.size (O ++ R) (J k O R)) → (∀ O R, Stab W.heap.size (O ++ R) (Jx O R)) → Yls P l J Jx nv xs hd → (E = true → ∀ O R W, ¬ J nv O R W) →
      Tr ⟨fn.ntmps, [], { W with heap := #[] }, W.heap.size, fun _ => True, []⟩ (enumS 0 (.func (.yield l) #[] #[] :: cap)) (.inv W.heap.size O R (J 0 O R) :: rds)
        (Wp Fence.wide 9 P ⟨RetJ P fn (fun e W' => (∃ v, e = .returned v) ∧ ∃ O' R', (J nv O' R' W' ∨ Jx O' R' W')), RetJ P fn (fun e W' => (∃ v, e = .returned v) ∧ ∃ O' R', (J nv O' R' W' ∨ Jx O' R' W')), []⟩ c)) : SeqX E P gf cap rds nv xs hd := by
  intro l J Jx W O R m hrW hrO hsJ hsX hlt hy hend h0
  have hrb : ∀ x ∈ rds, x.ids = [] ∧ x.frs = [] ∧ x.os = [] ∧ x.bs = none := fun x hx => by
    have := List.all_eq_true.1 hrd x hx
    cases x <;> first | exact ⟨rfl, rfl, rfl, rfl⟩ | (cases this; done)
  have st : St ⟨fn.ntmps, [], { W with heap := #[] }, W.heap.size, fun _ => True, []⟩ (enumS 0 (.func (.yield l) #[] #[] :: cap)) (.inv W.heap.size O R (J 0 O R) :: rds) { tmps := (.func (.yield l) #[] #[] :: cap).toArray ++ Array.replicate (fn.ntmps - (.func (.yield l) #[] #[] :: cap).toArray.size) undef, defers := [] } W := by
    have hNN := Nat.le_of_ble_eq_true hN
    refine ⟨by simp; omega, rfl, ?_, ⟨⟨rfl, rfl, rfl, by simp⟩, fun k hk => by simp at hk⟩, ?_, ⟨by simp, Nat.le_refl _⟩, ?_, ?_, ?_, ?_, ?_, ⟨fun _ _ => trivial, fun _ _ _ _ => .inl trivial⟩⟩
    · intro k v hk
      have h1 := (enumS_spec _ 0 k v hk).2
      rw [Nat.sub_zero] at h1
      have h2 := (List.getElem?_eq_some_iff.1 h1).1
      rw [Array.getElem?_append_left (by simpa using h2)]
      simpa using h1
    · intro x hx
      rcases List.mem_cons.1 hx with rfl | hx
      · exact ⟨h0, hsJ _ _ _, hlt⟩
      · exact hrW x hx
    · intro x hx k hk
      rcases List.mem_cons.1 hx with rfl | hx
      · cases hk
      · rw [(hrb x hx).2.1] at hk; cases hk
    · have : rds.flatMap HA.ids = [] := List.flatMap_eq_nil_iff.2 fun x hx => (hrb x hx).1
      simp [HA.ids, this]
    · intro x hx y hy r hr hry
      rcases List.mem_cons.1 hy with rfl | hy
      · cases hry
      · rw [(hrb y hy).1] at hry; cases hry
    · intro x hx q hq y hy hyb hqr
      rcases List.mem_cons.1 hx with rfl | hx
      · rcases List.mem_cons.1 hy with rfl | hy
        · cases hyb
        · exact hrO y hy q hqr hq
      · rw [(hrb x hx).2.2.1] at hq; cases hq
    · intro x hx B hB
      rcases List.mem_cons.1 hx with rfl | hx
      · cases hB; exact ⟨rfl, Nat.le_refl _⟩
      · rw [(hrb x hx).2.2.2] at hB; cases hB
  have h9 : CallsIn Fence.wide 9 P gf (.func (.yield l) #[] #[] :: cap).toArray W (fun e W' => (∃ v, e = .returned v) ∧ ∃ O' R', (J nv O' R' W' ∨ Jx O' R' W')) := by
    refine callsIn_of_wp hf hb trivial (wpIn_mono (hh l J Jx W O R hsJ hsX hy hend _ _ st) (fun e a w hq => ?_)) rfl
    cases e with
    | normal => exact hq
    | ret => exact hq
    | exit i => obtain ⟨_, hj, _⟩ := hq; cases hj
    | goto _ => exact hq.elim
    | panic _ => exact hq.elim
    | outgrown => exact hq.elim
  exact callsIn_wide.2 (callsIn_wide.1 h9)
section
variable {P : Program} {fn : Func} {X : Cx} {s : List (Nat × Value)} {h : List HA}
theorem T_finJ {nv B : Nat} {J : JJ} {Jx : JX} {O R : List Nat} (hX : X.ds = []) (hr : fn.results = #[]) (i : Nat) (hi : h[i]? = some (.inv B O R (J nv O R))) : Tr X s h (RetJ P fn (fun e W' => (∃ v, e = .returned v) ∧ ∃ O' R', (J nv O' R' W' ∨ Jx O' R' W'))) := fun a w st =>
  ⟨st.df.trans hX, .tuple #[], by simp [results, hr, go_sem], ⟨_, rfl⟩, O, R, .inl (st.ok _ (List.mem_of_getElem? hi) : (HA.inv B O R (J nv O R)).ok w).1⟩
theorem T_finX {nv B : Nat} {J : JJ} {Jx : JX} {O R : List Nat} (hX : X.ds = []) (hr : fn.results = #[]) (i : Nat) (hi : h[i]? = some (.inv B O R (Jx O R))) : Tr X s h (RetJ P fn (fun e W' => (∃ v, e = .returned v) ∧ ∃ O' R', (J nv O' R' W' ∨ Jx O' R' W'))) := fun a w st =>
  ⟨st.df.trans hX, .tuple #[], by simp [results, hr, go_sem], ⟨_, rfl⟩, O, R, .inr (st.ok _ (List.mem_of_getElem? hi) : (HA.inv B O R (Jx O R)).ok w).1⟩
end
/-! The loop's side. -/
theorem os_of_bs {x : HA} (h : x.bs = none) : x.os = [] := by cases x <;> first | rfl | (cases h; done)
theorem St.stab {X : Cx} {s : List (Nat × Value)} {h : List HA} {a : Act} {w w' : World} (st : St X s h a w) {B : Nat} (hB : X.w0.heap.size ≤ B) (hn : ∀ x ∈ h, x.bs = none) (hs : Same w w') (hb : ∀ i, i < B → w'.heap[i]? = w.heap[i]?) (hi : ∀ i ∈ h.flatMap HA.ids ++ h.flatMap HA.rids, w'.heap[i]? = w.heap[i]?) : St X s h a w' :=
  ⟨st.sz, st.df, st.sl, ⟨st.kp.same.trans hs, fun k hk hn => (hb k (by omega)).trans (st.kp.block k hk hn)⟩,
    fun x hx => HA.ok_keep (st.ok x hx) hs (fun i hin => hi i (by
      rcases List.mem_append.1 hin with h1 | h1
      · exact List.mem_append.2 (.inl (List.mem_flatMap.2 ⟨x, hx, h1⟩))
      · exact List.mem_append.2 (.inr (List.mem_flatMap.2 ⟨x, hx, h1⟩)))) (fun B hB => by rw [hn x hx] at hB; cases hB),
    ⟨st.ll.1, Nat.le_trans st.ll.2 hs.size⟩, st.fr, st.nd, st.dj, st.iv, st.ib, st.rk⟩
/-- The act of one state, the memory of another one. -/
theorem St.act {X : Cx} {s s' : List (Nat × Value)} {h h' : List HA} {a a' : Act} {w w' : World} (st : St X s h a w) (st' : St X s' h' a' w') : St X s h' a w' :=
  ⟨st.sz, st.df, st.sl, st'.kp, st'.ok, st'.ll, st'.fr, st'.nd, st'.dj, st'.iv, st'.ib, st'.rk⟩
theorem St.putobj {X : Cx} {s : List (Nat × Value)} {h : List HA} {a : Act} {w : World} {g : Nat} {ob : Obj} (st : St X s (.obj g ob :: h) a w) (ob' : Obj) : St X s (.obj g ob' :: h) a (w.putObj g ob') := by
  have hg : w.heap[g]? = some ob := st.ok _ (List.mem_cons_self ..)
  have hlt := (Array.getElem?_eq_some_iff.1 hg).1
  refine st.swap [.obj g ob] h [.obj g ob'] (List.Perm.refl _) st.sz st.df st.sl ⟨⟨rfl, rfl, rfl, by simp⟩, fun k _ hk => World.putObj_heap_other (fun e => hk (by simp [HA.ids, e]))⟩ ?_ ?_ ?_ ?_
  · intro x hx; rw [List.mem_singleton] at hx; subst hx; exact World.putObj_heap_same hlt
  · intro x hx k hk; rw [List.mem_singleton] at hx; subst hx; exact .inl (by simpa [HA.ids, HA.frs] using hk)
  · simp [HA.ids]
  · intro x hx r hr; rw [List.mem_singleton] at hx; subst hx; cases hr
theorem St.newobj {X : Cx} {s : List (Nat × Value)} {h : List HA} {a : Act} {w : World} (st : St X s h a w) (ob : Obj) : St X s (.obj w.heap.size ob :: h) a (w.alloc ob) := by
  refine st.swap [] h [.obj w.heap.size ob] (List.Perm.refl _) st.sz st.df st.sl (keep_alloc w _) ?_ ?_ ?_ ?_
  · intro x hx; rw [List.mem_singleton] at hx; subst hx; exact World.alloc_heap_new w _
  · intro x hx k hk; rw [List.mem_singleton] at hx; subst hx; simp [HA.frs] at hk; subst hk; exact .inr (Nat.le_refl _)
  · simp [HA.ids]
  · intro x hx r hr; rw [List.mem_singleton] at hx; subst hx; cases hr
/-- Rows that are read, told beside. -/
theorem St.addrd {X : Cx} {s : List (Nat × Value)} {h : List HA} {a : Act} {w : World} (st : St X s h a w) (hd : List HA) (hk : HOK hd w) (hb : hd.all rdB = true) (hn : ∀ x ∈ h, x.bs = none) (hr : ∀ x ∈ hd, ∀ r ∈ x.rids, r ∉ h.flatMap HA.ids) (hrs : ∀ x ∈ hd, ∀ r ∈ x.rids, X.rs r) : St X s (hd ++ h) a w := by
  have hrb : ∀ x ∈ hd, x.ids = [] ∧ x.frs = [] ∧ x.os = [] ∧ x.bs = none := fun x hx => by
    have := List.all_eq_true.1 hb x hx
    cases x <;> first | exact ⟨rfl, rfl, rfl, rfl⟩ | (cases this; done)
  refine ⟨st.sz, st.df, st.sl, st.kp, ?_, st.ll, ?_, ?_, ?_, ?_, ?_, ⟨st.rk.1, fun x hx r hrr => (List.mem_append.1 hx).elim (fun hx => .inl (hrs x hx r hrr)) (fun hx => st.rk.2 x hx r hrr)⟩⟩
  · intro x hx
    rcases List.mem_append.1 hx with hx | hx
    · exact hk x hx
    · exact st.ok x hx
  · intro x hx k hkf
    rcases List.mem_append.1 hx with hx | hx
    · rw [(hrb x hx).2.1] at hkf; cases hkf
    · exact st.fr x hx k hkf
  · rw [List.flatMap_append, List.flatMap_eq_nil_iff.2 fun x hx => (hrb x hx).1]
    simpa using st.nd
  · intro x hx y hy r hrr hry
    rcases List.mem_append.1 hy with hy | hy
    · rw [(hrb y hy).1] at hry; cases hry
    · rcases List.mem_append.1 hx with hx | hx
      · exact hr x hx r hrr (List.mem_flatMap.2 ⟨y, hy, hry⟩)
      · exact st.dj x hx y hy r hrr hry
  · intro x hx q hq
    rcases List.mem_append.1 hx with hx | hx
    · rw [(hrb x hx).2.2.1] at hq; cases hq
    · rw [os_of_bs (hn x hx)] at hq; cases hq
  · intro x hx B hB
    rcases List.mem_append.1 hx with hx | hx
    · rw [(hrb x hx).2.2.2] at hB; cases hB
    · exact st.ib x hx B hB
theorem rdv_part3 {w : World} {A : Option Addr} {z n c l u : Nat} {cs : List Value} (hr : RdV w A z n c cs) (h1 : l ≤ u) (h2 : u ≤ n) : RdV w (if u = l then A else A.map (·.add (l * z))) z (u - l) (u - l) ((cs.drop (l * z)).take ((u - l) * z)) := by
  have hl := hr.len; have hle := hr.le; have hm := hr.most
  have e1 : l * z + (u - l) * z = u * z := by rw [← Nat.add_mul]; congr 1; omega
  have e2 : u * z ≤ n * z := Nat.mul_le_mul_right z h2
  refine ⟨?_, Nat.le_refl _, by omega, ?_, ?_⟩
  · simp only [List.length_take, List.length_drop, hl]; omega
  · intro e
    by_cases hc : u = l
    · omega
    · rw [if_neg hc] at e
      have : A = none := by simpa using e
      have := hr.isn this; omega
  · intro ad e j v hj
    rw [List.getElem?_take] at hj
    split at hj
    case isFalse => cases hj
    case isTrue hjl =>
      rw [List.getElem?_drop] at hj
      by_cases hc : u = l
      · have : u - l = 0 := by omega
        rw [this] at hjl; simp at hjl
      · rw [if_neg hc] at e
        obtain ⟨ad', h3, h4⟩ := Option.map_eq_some_iff.1 e
        have := hr.cells ad' h3 (l * z + j) v hj
        rw [← h4, Addr.add_add]
        exact this
/-- s[l:u:u] of a slice that is read. -/
theorem op_slice3_rd {X : Cx} {s : List (Nat × Value)} {h : List HA} {P : Program} {o : Oper} {K K0 : Jd} {d : Nat} {t e : TypeId} {x lo hi mx : Operand} {A : Option Addr} {z n c l u : Nat} {cs : List Value} {k1 k2 k3 : IntKind} (i : Nat) (hi' : h[i]? = some (.rd A z n c cs)) (hlu : l ≤ u) (hun : u ≤ n) (ht : P.underlying t = some (.slice e)) (hz : (P.info? e).map (·.size) = some z)
    (ho : o.op = .slice t x (some lo) (some hi) (some mx)) (hx : ev s x = some (.slice A n c)) (hl : ev s lo = some (.int k1 (l : Int))) (hu : ev s hi = some (.int k2 (u : Int))) (hm : ev s mx = some (.int k3 (u : Int))) (hd : o.dst = some d) (hN : Nat.blt d X.N = true)
    (hh : ∀ A', Tr X ((d, .slice A' (u - l) (u - l)) :: s) (.rd A' z (u - l) (u - l) ((cs.drop (l * z)).take ((u - l) * z)) :: h) K) : Tr X s h (Op P o K K0) := fun a w st => by
  have hrd := (src_rd i hi' w st.ok).1
  have hr : (execOp a.eval o).run P w = .ok (.value (.slice (if u = l then A else A.map (·.add (l * z))) (u - l) (u - l))) w := by
    have hle := hrd.le
    have g1 : (0 : Int) ≤ (u : Int) ∧ (u : Int) ≤ c := by omega
    have g2 : (0 : Int) ≤ (l : Int) ∧ (l : Int) ≤ u := by omega
    have g3 : ¬ u < l := by omega
    have g4 : u ≤ c := by omega
    have g5 : ¬ c < u := by omega
    unfold execOp; rw [ho]
    simp [st.ag _ _ hx, st.ag _ _ hl, st.ag _ _ hu, st.ag _ _ hm, Instr.sliceAt, run_underlying ht, Instr.slice, Instr.sliceBounds, Instr.sliceBound, asIntOf, g1, g2, g3, g4, g5, hlu, run_sizeOf hz]
  refine op_val hr ?_
  rw [hd]
  have st' := st.put (Nat.le_of_ble_eq_true hN) (.slice (if u = l then A else A.map (·.add (l * z))) (u - l) (u - l))
  refine T_part i hi' (fun w hw => rdv_part3 (src_rd i hi' w hw).1 hlu hun) ?_ (by have := (src_rd i hi' _ st.ok).1.le; omega) (hh _) _ _ st'
  intro ad e
  by_cases hc : u = l
  · rw [if_pos hc] at e; exact ⟨ad, e, rfl⟩
  · rw [if_neg hc] at e
    obtain ⟨ad', h3, h4⟩ := Option.map_eq_some_iff.1 e
    exact ⟨ad', h3, by rw [← h4, add_block]⟩
/-- What a sequence is asked to read. -/
def HA.asrd : HA → HA
  | .old A z n c cs => .rd A z n c cs
  | x => x
theorem asrd_ok {x : HA} {w : World} (h : x.ok w) : x.asrd.ok w := by cases x <;> exact h
theorem asrd_rids (x : HA) : x.asrd.rids = x.rids := by cases x <;> rfl
/-- A round has begun: the assignments to the loop's variables are over. -/
def Begun (l m : Nat) (P : Program) (X : Cx) (rec : Loop) (k : Ks) (body : Code) : Jd := fun a w =>
  ∃ w₂, (Instr.beginRound l).run P w = .ok () w₂ ∧ Wp (Fence.wide.inRound l) m P k body a w₂
theorem T_begun {l m : Nat} {P : Program} {X : Cx} {rec : Loop} {k : Ks} {body : Code} {s : List (Nat × Value)} {h : List HA} (i : Nat) (hi : h[i]? = some (.obj l (.loop rec))) (hrec : rec.state = .ready) (hh : Tr X s (.obj l (.loop { rec with state := .busy }) :: h.eraseIdx i) (Wp (Fence.wide.inRound l) m P k body)) : Tr X s h (Begun l m P X rec k body) := fun a w st => by
  have st1 := st.perm (perm_erase h i _ hi)
  have hl : w.heap[l]? = some (.loop rec) := st1.ok _ (List.mem_cons_self ..)
  exact ⟨_, run_beginRound hl hrec, hh a _ (st1.putobj _)⟩
/-- How a round ends: on, or by a jump. -/
def RoundOn {T : Type} (l D : Nat) (X : Cx) (rec : Loop) (q : T → Prop) (η : T → List HA) : Jd := fun a w => ∃ t, q t ∧ St X [] (.obj l (.loop { rec with state := .busy }) :: .obj D (.deferred (some [])) :: η t) a w
theorem T_on {T : Type} {l D : Nat} {X : Cx} {rec : Loop} {q : T → Prop} {η : T → List HA} {s : List (Nat × Value)} {h : List HA} (t : T) (hq : q t) (is : List Nat) (hp : Pick h is (.obj l (.loop { rec with state := .busy }) :: .obj D (.deferred (some [])) :: η t)) : Tr X s h (RoundOn l D X rec q η) := fun a w st =>
  ⟨t, hq, (st.slots (s' := []) (fun k v e => by cases e)).pick hp⟩
def slotsOf : List Nat → List Value → List (Nat × Value)
  | p :: ps, v :: vs => slotsOf ps vs ++ [(p, v)]
  | _, _ => []
theorem lookup_app {β : Type} : ∀ (l r : List (Nat × β)) (k : Nat), (l ++ r).lookup k = (l.lookup k).or (r.lookup k)
  | [], r, k => by simp
  | (j, v) :: l, r, k => by
    rw [List.cons_append, List.lookup_cons, List.lookup_cons]
    split
    · rfl
    · exact lookup_app l r k
theorem slotsOf_spec : ∀ (ps : List Nat) (vs : List Value) (t : Array Value) (s : List (Nat × Value)), (∀ p ∈ ps, p < t.size) → (∀ k v, s.lookup k = some v → t[k]? = some v) → ∀ k v, (slotsOf ps vs ++ s).lookup k = some v → ((ps.zip vs).foldl (fun (t : Array Value) (q : Nat × Value) => t.setIfInBounds q.1 q.2) t)[k]? = some v
  | [], vs, t, s, _, hs, k, v, e => by cases vs <;> exact hs k v e
  | p :: ps, [], t, s, _, hs, k, v, e => hs k v e
  | p :: ps, u :: us, t, s, hp, hs, k, v, e => by
    rw [List.zip_cons_cons, List.foldl_cons]
    refine slotsOf_spec ps us (t.setIfInBounds p u) ((p, u) :: s) (fun q hq => by simpa using hp q (List.mem_cons_of_mem _ hq)) ?_ k v ?_
    · intro k v e
      rw [List.lookup_cons] at e
      rw [Array.getElem?_setIfInBounds]
      by_cases hk : k = p
      · subst hk; simp at e; subst e; simp [hp k (List.mem_cons_self ..)]
      · have h2 : (k == p) = false := by simpa using hk
        rw [h2] at e
        rw [if_neg (fun e => hk e.symm)]; exact hs k v e
    · have e' : ((slotsOf ps us ++ [(p, u)]) ++ s).lookup k = some v := e
      rwa [List.append_assoc] at e'
theorem foldl_size : ∀ (l : List (Nat × Value)) (t : Array Value), (l.foldl (fun (t : Array Value) (q : Nat × Value) => t.setIfInBounds q.1 q.2) t).size = t.size
  | [], t => rfl
  | q :: l, t => by rw [List.foldl_cons, foldl_size l]; simp
def HA.plainB : HA → Bool
  | .blk _ _ _ => true
  | .row _ _ _ _ _ => true
  | .rd _ _ _ _ _ => true
  | .all _ => true
  | .obj _ _ => true
  | _ => false
theorem plain_bs {x : HA} (h : x.plainB = true) : x.bs = none := by cases x <;> first | rfl | (cases h; done)
theorem plain_frs {x : HA} (h : x.plainB = true) : x.frs = x.ids := by cases x <;> first | rfl | (cases h; done)
/-- A row given up is a row that is read. -/
theorem T_tord {X : Cx} {s : List (Nat × Value)} {h : List HA} {J : Jd} (i : Nat) {A : Option Addr} {z n c : Nat} {cs : List Value} (hi : h[i]? = some (.old A z n c cs)) (hh : Tr X s (.rd A z n c cs :: h.eraseIdx i) J) : Tr X s h J := fun a w st => by
  have st1 := st.perm (perm_erase h i _ hi)
  refine hh a w ⟨st1.sz, st1.df, st1.sl, st1.kp, ?_, st1.ll, ?_, by simpa [HA.ids] using st1.nd, ?_, ?_, ?_, ⟨st1.rk.1, ?_⟩⟩
  · intro x hx
    rcases List.mem_cons.1 hx with rfl | hx
    · exact (st1.ok _ (List.mem_cons_self ..) : (HA.old A z n c cs).ok w)
    · exact st1.ok x (List.mem_cons_of_mem _ hx)
  · intro x hx k hk
    rcases List.mem_cons.1 hx with rfl | hx
    · cases hk
    · exact st1.fr x (List.mem_cons_of_mem _ hx) k hk
  · intro x hx y hy r hr hry
    rcases List.mem_cons.1 hy with rfl | hy
    · cases hry
    · rcases List.mem_cons.1 hx with rfl | hx
      · exact st1.dj (.old A z n c cs) (List.mem_cons_self ..) y (List.mem_cons_of_mem _ hy) r hr hry
      · exact st1.dj x (List.mem_cons_of_mem _ hx) y (List.mem_cons_of_mem _ hy) r hr hry
  · intro x hx q hq y hy hyb hqr
    rcases List.mem_cons.1 hx with rfl | hx
    · cases hq
    · rcases List.mem_cons.1 hy with rfl | hy
      · exact st1.iv x (List.mem_cons_of_mem _ hx) q hq (.old A z n c cs) (List.mem_cons_self ..) rfl hqr
      · exact st1.iv x (List.mem_cons_of_mem _ hx) q hq y (List.mem_cons_of_mem _ hy) hyb hqr
  · intro x hx B hB
    rcases List.mem_cons.1 hx with rfl | hx
    · cases hB
    · exact st1.ib x (List.mem_cons_of_mem _ hx) B hB
  · intro x hx r hr
    rcases List.mem_cons.1 hx with rfl | hx
    · exact st1.rk.2 (.old A z n c cs) (List.mem_cons_self ..) r hr
    · exact st1.rk.2 x (List.mem_cons_of_mem _ hx) r hr
/-- What a function that holds a range over a function owes at its end. -/
def RetM (P : Program) (fn : Func) (R : Ending → World → Prop) : Jd := fun a w => LeavesInM Fence.wide 9 P fn a.tmps R a.defers .returning w
theorem enter_m {P : Program} {f : FuncId} {fn : Func} {c : Code} {R : Ending → World → Prop} {w : World} (hf : P.funcs[f]? = some fn) (hb : fn.body = some c) (C : List Nat) (args : List Value) (h : List HA) (hN : Nat.ble args.length fn.ntmps = true) (hO : Own C h w)
    (hh : Tr ⟨fn.ntmps, C, w, w.heap.size, fun _ => True, []⟩ (enumS 0 args) h (Wp Fence.wide 9 P ⟨RetM P fn R, RetM P fn R, []⟩ c)) : Calls P f args.toArray w R := by
  refine (callsIn_wide (n := 9)).1 (callsIn_of_wp_marks hf hb trivial (wpIn_mono (hh _ _ (st_enter C args h (Nat.le_of_ble_eq_true hN) hO)) (fun e a w hq => ?_)) rfl)
  cases e with
  | normal => exact hq
  | ret => exact hq
  | exit i => obtain ⟨J, hj, _⟩ := hq; cases hj
  | goto _ => exact hq.elim
  | panic _ => exact hq.elim
  | outgrown => exact hq.elim
theorem T_finM0 {P : Program} {fn : Func} {s : List (Nat × Value)} {h : List HA} {N : Nat} {C : List Nat} {w0 : World} {rs : Nat → Prop} {T : Type} {q : T → Prop} {res : T → Value} {hs : T → List HA} (t : T) (hq : q t) (hv : ResV P fn s h (res t)) (is : List Nat) (hp : Pick h is (hs t)) (hr : (hs t).all HA.outB = true) :
    Tr ⟨N, C, w0, w0.heap.size, rs, []⟩ s h (RetM P fn (Ret C w0 q res hs)) := fun a w st => by
  unfold RetM; rw [st.df]
  exact ⟨_, hv _ st.sl _ st.ok, t, hq, rfl, post_of_st (st.pick hp) hr⟩
theorem T_finM {P : Program} {fn : Func} {s : List (Nat × Value)} {h : List HA} {N : Nat} {C : List Nat} {w0 : World} {rs : Nat → Prop} {T : Type} {q : T → Prop} {res : T → Value} {hs : T → List HA} {D : Nat} (i : Nat) (hi : h[i]? = some (.obj D (.deferred (some [])))) (t : T) (hq : q t) (hv : ResV P fn s (h.eraseIdx i) (res t)) (is : List Nat) (hp : Pick (h.eraseIdx i) is (hs t)) (hr : (hs t).all HA.outB = true) :
    Tr ⟨N, C, w0, w0.heap.size, rs, [{ target := .collected D, args := #[] }]⟩ s h (RetM P fn (Ret C w0 q res hs)) := fun a w st => by
  have st1 := st.perm (perm_erase h i _ hi)
  have hD : w.heap[D]? = some (.deferred (some [])) := st1.ok _ (List.mem_cons_self ..)
  have st2 := st1.putobj (.deferred none)
  have st3 : St _ s (h.eraseIdx i) a _ := St.drop (out := [_]) st2
  unfold RetM; rw [st.df]
  refine ⟨by simp, .inl ⟨D, _, rfl, run_takeDeferred hD, ?_⟩⟩
  exact ⟨_, hv _ st3.sl _ st3.ok, t, hq, rfl, post_of_st (st3.pick hp) hr⟩
/-- **A range over a function.** -/
theorem T_range {E : Bool} {Θ T Tx : Type} {n : Nat} {P : Program} {N : Nat} {C : List Nat} {w0 : World} {lo : Nat} {rs : Nat → Prop} {ds : List Deferred} {s : List (Nat × Value)} {h : List HA} {nrm ret : Jd} {ex : List (Nat × Jd)} {g : Operand} {ps : List Nat} {assign body : Code} {gf : FuncId} {cap : List Value} {rds : List HA} {nv : Nat} {xs : Nat → Θ → List Value} {hd : Nat → Θ → List HA}
    (hseq : SeqX E P gf cap rds nv xs hd) (hg : ev s g = some (.func (.func gf) #[] cap.toArray)) (hen : Go.Proofs.Enters P gf)
    (p : Nat → T → Prop) (η : Nat → T → List HA) (q : Tx → Prop) (ηx : Tx → List HA) (jid : Nat) (t0 : T) (h0 : p 0 t0) (is : List Nat) (hi : Pick h is (η 0 t0)) (js : List Nat) (hj : js.map (fun j => (h[j]?).map HA.asrd) = rds.map some) (hjr : js.all (fun j => match h[j]? with | some x => x.asrd.bs.isNone && x.ids.isEmpty | none => false) = true)
    (hηn' : ∀ k t, (η k t).all HA.plainB = true) (hηx' : ∀ t, (ηx t).all HA.plainB = true) (hdr : ∀ k θ, (hd k θ).all rdB = true) (hps : ∀ k θ, (xs k θ).length = ps.length) (hpN : ps.all (fun p => Nat.blt p N) = true)
    (hrs : ∀ r, rs r) (hround : ∀ (C2 : List Nat) (w2 : World) (lo2 : Nat) (rs2 : Nat → Prop) (l D m k : Nat) (t : T) (θ : Θ) (rec : Loop), rec.state = .ready → k < nv → p k t →
      Tr ⟨N, C2, w2, lo2, rs2, []⟩ (slotsOf ps (xs k θ) ++ s) (hd k θ ++ (.obj l (.loop rec) :: .obj D (.deferred (some [])) :: η k t))
        (Wp (Fence.wide.inRound l) m P ⟨Begun l m P ⟨N, C2, w2, lo2, rs2, []⟩ rec ⟨RoundOn l D ⟨N, C2, w2, lo2, rs2, []⟩ rec (p (k + 1)) (η (k + 1)), fun _ _ => False, [(jid, RoundOn l D ⟨N, C2, w2, lo2, rs2, []⟩ rec q ηx)]⟩ body, fun _ _ => False, []⟩ assign))
    (hdone : ∀ (D : Nat) (t : T), p nv t → Tr ⟨N, C, w0, lo, rs, { target := .collected D, args := #[] } :: ds⟩ s (.obj D (.deferred (some [])) :: η nv t) nrm)
    (hstop : ∀ (D : Nat) (t : Tx), q t → Tr ⟨N, C, w0, lo, rs, { target := .collected D, args := #[] } :: ds⟩ s (.obj D (.deferred (some [])) :: ηx t) (Wp Fence.wide n P ⟨nrm, ret, ex⟩ (.exit jid)))
    (hE : E = true → ∀ t, ¬ p nv t := by intro h; cases h) :
    Tr ⟨N, C, w0, lo, rs, ds⟩ s h (Wp Fence.wide n P ⟨nrm, ret, ex⟩ (.rangeFunc g ps.toArray assign body)) := fun a w st => by
  refine wpIn_rangeFunc fun fn hfn => ?_
  rw [show Fence.wide.round = none from rfl]
  have hηn : ∀ k t, ∀ x ∈ η k t, x.bs = none := fun k t x hx => plain_bs (List.all_eq_true.1 (hηn' k t) x hx)
  have hηx : ∀ t, ∀ x ∈ ηx t, x.bs = none := fun t x hx => plain_bs (List.all_eq_true.1 (hηx' t) x hx)
  let R0 : LoopState → Option Code → Loop := fun st pe => { state := st, pending := pe, fn, tmps := a.tmps, params := ps.toArray, assign, body, defers := w.heap.size }
  let X1 : Cx := ⟨N, C, w0, lo, rs, []⟩
  let a1 : Act := { tmps := a.tmps, defers := [] }
  have stA : ∀ {h' : List HA} {w' : World}, St ⟨N, C, w0, lo, rs, ds⟩ s h' a w' → St X1 s h' a1 w' := fun st => ⟨st.sz, rfl, st.sl, st.kp, st.ok, st.ll, st.fr, st.nd, st.dj, st.iv, st.ib, st.rk⟩
  let lI := w.heap.size + 1
  let D := w.heap.size
  let W1 := (w.alloc (.deferred (some []))).alloc (.loop (R0 .ready none))
  let hp := fun (r : Loop) (l : List HA) => HA.obj lI (.loop r) :: .obj D (.deferred (some [])) :: l
  have st0 : St X1 s (hp (R0 .ready none) (η 0 t0)) a1 W1 := by
    have h1 := (stA (st.pick hi)).newobj (.deferred (some []))
    have h2 := h1.newobj (.loop (R0 .ready none))
    rw [show (w.alloc (Obj.deferred (some []))).heap.size = lI from World.size_alloc _ _] at h2
    exact h2
  let J : JJ := fun k O R W => ∃ t, p k t ∧ St X1 s (hp (R0 .ready none) (η k t)) a1 W ∧ O = (hp (R0 .ready none) (η k t)).flatMap HA.ids ∧ R = (hp (R0 .ready none) (η k t)).flatMap HA.rids
  let Jx : JX := fun O R W => ∃ t, q t ∧ St X1 s (hp (R0 .done (some (.exit jid))) (ηx t)) a1 W ∧ O = (hp (R0 .done (some (.exit jid))) (ηx t)).flatMap HA.ids ∧ R = (hp (R0 .done (some (.exit jid))) (ηx t)).flatMap HA.rids
  have hpn : ∀ r l, (∀ x ∈ l, x.bs = none) → ∀ x ∈ hp r l, x.bs = none := by
    intro r l hl x hx
    rcases List.mem_cons.1 hx with rfl | hx
    · rfl
    · rcases List.mem_cons.1 hx with rfl | hx
      · rfl
      · exact hl x hx
  have hW1s : w.heap.size ≤ W1.heap.size := by show w.heap.size ≤ ((w.alloc _).alloc _).heap.size; simp; omega
  have hw0 : w0.heap.size ≤ W1.heap.size := Nat.le_trans st.kp.same.size hW1s
  refine ⟨lI, [{ target := .collected D, args := #[] }], W1, { target := .fn (.func gf) cap.toArray, args := #[.func (.yield lI) #[] #[]] }, W1, gf, (.func (.yield lI) #[] #[] :: cap).toArray, W1, ?_, ?_, fun f' _ => trivial, ?_, fun hh => absurd hh (by simp [Fence.wide]), ?_⟩
  · exact run_enterLoop_outer _ _ _ _ _
  · have hev : a.eval (.const (.func (.yield lI) #[] #[])) = .func (.yield lI) #[] #[] := rfl
    simp only [resolve, rangeCall, st.ag g _ hg]
    simp [Deferred.ofValue, hev]
  · have := hen (#[.func (.yield lI) #[] #[]] ++ cap.toArray) W1
    have e : (#[Value.func (.yield lI) #[] #[]] ++ cap.toArray) = (Value.func (.yield lI) #[] #[] :: cap).toArray := by simp
    rw [e] at this
    simp only [invoke]
    rw [e]; exact this
  · have hlow : ∀ {r : Loop} {l : List HA} {W : World}, St X1 s (hp r l) a1 W → ∀ i ∈ (hp r l).flatMap HA.ids ++ (hp r l).flatMap HA.rids, i < W.heap.size := by
      intro r l W hst i hin
      rcases List.mem_append.1 hin with h1 | h1 <;> obtain ⟨x, hx, hxi⟩ := List.mem_flatMap.1 h1
      · exact HA.lt (hst.ok x hx) i (List.mem_append.2 (.inl hxi))
      · exact HA.lt (hst.ok x hx) i (List.mem_append.2 (.inr hxi))
    have hrW : HOK rds W1 := by
      intro x hx
      have : some x ∈ js.map (fun j => (h[j]?).map HA.asrd) := by rw [hj]; exact List.mem_map.2 ⟨x, hx, rfl⟩
      obtain ⟨j, hjm, hje⟩ := List.mem_map.1 this
      obtain ⟨y, hy, rfl⟩ := Option.map_eq_some_iff.1 hje
      have hyh := List.mem_of_getElem? hy
      have hb := List.all_eq_true.1 hjr j hjm
      simp only [hy, Bool.and_eq_true, Option.isNone_iff_eq_none] at hb
      have hyb : y.bs = none := by have := hb.1; cases y <;> first | rfl | (cases this; done)
      refine asrd_ok (HA.ok_keep (st.ok y hyh) ⟨rfl, rfl, rfl, hW1s⟩ (fun i hin => ?_) (fun B hB => by rw [hyb] at hB; cases hB))
      have hlt := HA.lt (st.ok y hyh) i hin
      show ((w.alloc _).alloc _).heap[i]? = _
      rw [Below.heap_alloc _ _ _ (by simp; omega), Below.heap_alloc _ _ _ hlt]
    have hrO : ∀ x ∈ rds, ∀ r ∈ x.rids, r ∉ (hp (R0 .ready none) (η 0 t0)).flatMap HA.ids := by
      intro x hx r hr hin
      have : some x ∈ js.map (fun j => (h[j]?).map HA.asrd) := by rw [hj]; exact List.mem_map.2 ⟨x, hx, rfl⟩
      obtain ⟨j, hjm, hje⟩ := List.mem_map.1 this
      obtain ⟨y, hy, rfl⟩ := Option.map_eq_some_iff.1 hje
      have hyh := List.mem_of_getElem? hy
      rw [asrd_rids] at hr
      have hlt := HA.lt (st.ok y hyh) r (List.mem_append.2 (.inr hr))
      obtain ⟨z, hz, hzr⟩ := List.mem_flatMap.1 hin
      rcases List.mem_cons.1 hz with rfl | hz
      · simp [HA.ids] at hzr; omega
      · rcases List.mem_cons.1 hz with rfl | hz
        · simp [HA.ids] at hzr; omega
        · have hzh : z ∈ h := by
            have : some z ∈ is.map (h[·]?) := by rw [hi.2]; exact List.mem_map.2 ⟨z, hz, rfl⟩
            obtain ⟨i, _, hi'⟩ := List.mem_map.1 this
            exact List.mem_of_getElem? hi'
          exact st.dj y hyh z hzh r hr hzr
    refine (hseq lI J Jx W1 _ _ (n - 1) hrW hrO ?_ ?_ (hlow st0) ?_ (fun hEt O R W ⟨t, ht, _⟩ => hE hEt t ht) ⟨t0, h0, st0, rfl, rfl⟩).mono ?_
    · rintro k O R W W' ⟨t, ht, hst, rfl, rfl⟩ hs hb hin
      exact ⟨t, ht, hst.stab hw0 (hpn _ _ (hηn k t)) hs hb hin, rfl, rfl⟩
    · rintro O R W W' ⟨t, ht, hst, rfl, rfl⟩ hs hb hin
      exact ⟨t, ht, hst.stab hw0 (hpn _ _ (hηx t)) hs hb hin, rfl, rfl⟩
    · rintro k θ O R Wy m hk ⟨t, ht, hst, rfl, rfl⟩ hdk hdO
      have hlw : Wy.heap[lI]? = some (.loop (R0 .ready none)) := hst.ok _ (List.mem_cons_self ..)
      have hy := run_yield (P := P) (args := (xs k θ).toArray) hlw (by show (xs k θ).toArray.size = ps.toArray.size; simp [hps k θ])
      refine ⟨fn, _, assign, body, hy, roundIn_of_wpIn hfn ?_⟩
      have hzip : ((R0 .ready none).params.zip (xs k θ).toArray).foldl (fun tmps (x : Nat × Value) => tmps.setIfInBounds x.1 x.2) (R0 .ready none).tmps = (ps.zip (xs k θ)).foldl (fun (t : Array Value) (q : Nat × Value) => t.setIfInBounds q.1 q.2) a.tmps := by
        show (ps.toArray.zip (xs k θ).toArray).foldl _ a.tmps = _
        rw [List.zip_toArray]
        simp
      let O := (hp (R0 .ready none) (η k t)).flatMap HA.ids
      let R := (hp (R0 .ready none) (η k t)).flatMap HA.rids
      let rs2 : Nat → Prop := fun r => r ∈ O ∨ r ∈ R ∨ r ∈ (hd k θ).flatMap HA.rids
      let X2 : Cx := ⟨N, O, Wy, Wy.heap.size, rs2, []⟩
      have hOC : ∀ i ∈ O, i ∈ C ∨ lo ≤ i := fun i hi => by
        obtain ⟨x, hx, hxi⟩ := List.mem_flatMap.1 hi
        exact hst.fr x hx i (HA.ids_frs hxi)
      have st2 : St X2 s (hp (R0 .ready none) (η k t)) a1 Wy :=
        ⟨hst.sz, rfl, hst.sl, Keep.refl _ _, hst.ok, ⟨Nat.le_refl _, Nat.le_refl _⟩, fun x hx c hc => ?_, hst.nd, hst.dj, hst.iv, fun x hx B hB => (by rw [hpn _ _ (hηn k t) x hx] at hB; cases hB), ⟨fun c hc => .inl hc, fun x hx r hr => .inl (.inr (.inl (List.mem_flatMap.2 ⟨x, hx, hr⟩)))⟩⟩
      case refine_1 =>
        refine .inl (List.mem_flatMap.2 ⟨x, hx, ?_⟩)
        rcases List.mem_cons.1 hx with rfl | hx
        · exact hc
        · rcases List.mem_cons.1 hx with rfl | hx
          · exact hc
          · rwa [plain_frs (List.all_eq_true.1 (hηn' k t) x hx)] at hc
      have stR : St X2 (slotsOf ps (xs k θ) ++ s) (hd k θ ++ hp (R0 .ready none) (η k t)) { tmps := (ps.zip (xs k θ)).foldl (fun (t : Array Value) (q : Nat × Value) => t.setIfInBounds q.1 q.2) a.tmps, defers := [] } Wy := by
        have h1 := st2.addrd (hd k θ) hdk (hdr k θ) (hpn _ _ (hηn k t)) hdO (fun x hx r hr => .inr (.inr (List.mem_flatMap.2 ⟨x, hx, hr⟩)))
        refine ⟨by rw [foldl_size]; exact hst.sz, rfl, slotsOf_spec ps (xs k θ) a.tmps s ?_ hst.sl, h1.kp, h1.ok, h1.ll, h1.fr, h1.nd, h1.dj, h1.iv, h1.ib, h1.rk⟩
        intro p' hp'
        have := List.all_eq_true.1 hpN p' hp'
        have h3 : p' < N := Nat.le_of_ble_eq_true this
        have h4 : a.tmps.size = N := hst.sz
        omega
      have hw := hround O Wy Wy.heap.size rs2 lI D m k t θ (R0 .ready none) rfl hk ht _ _ stR
      have hw2 : assign.wpIn (Fence.wide.inRound lI) m P (Exit.then (fun a₁ w₁ => ∃ w₂, (Instr.beginRound lI).run P w₁ = .ok () w₂ ∧ body.wpIn (Fence.wide.inRound lI) m P (roundPost P lI (YP J Jx k (hd k θ) O R Wy)) a₁ w₂) (fun _ _ _ => False)) { tmps := (ps.zip (xs k θ)).foldl (fun (t : Array Value) (q : Nat × Value) => t.setIfInBounds q.1 q.2) a.tmps, defers := [] } Wy := by
        refine wpIn_mono hw (fun e a2 w2 hq => ?_)
        cases e with
        | ret => exact hq.elim
        | exit i => obtain ⟨_, hj2, _⟩ := hq; cases hj2
        | goto _ => exact hq.elim
        | panic _ => exact hq.elim
        | outgrown => exact hq.elim
        | normal =>
          obtain ⟨w3, hb3, hbody⟩ := hq
          refine ⟨w3, hb3, wpIn_mono hbody (fun e a4 w4 hq4 => ?_)⟩
          have finish : ∀ (l' : List HA) (jump : Option Code) (r'' : Loop), St X2 [] (hp (R0 .busy none) l') a4 w4 → (r'' = { R0 .busy none with state := if jump.isNone then .ready else .done, pending := jump }) → (∀ x ∈ l', x.bs = none) →
              ∃ w', (Instr.endRound lI jump).run P w4 = .ok (.bool jump.isNone) w' ∧ St X1 s (hp r'' l') a1 w' ∧ (∀ i ∈ (hp r'' l').flatMap HA.ids, i ∈ O ∨ Wy.heap.size ≤ i) ∧ (∀ i ∈ (hp r'' l').flatMap HA.rids, i ∈ O ∨ i ∈ R ∨ i ∈ (hd k θ).flatMap HA.rids ∨ Wy.heap.size ≤ i) ∧ Keep O Wy w' := by
            intro l' jump r'' hst4 hr'' hl'
            have hl4 : w4.heap[lI]? = some (.loop (R0 .busy none)) := hst4.ok _ (List.mem_cons_self ..)
            refine ⟨_, run_endRound jump hl4, ?_⟩
            subst hr''
            have h5 := hst4.putobj (.loop { R0 .busy none with state := if jump.isNone then .ready else .done, pending := jump })
            have hid : ∀ x ∈ hp { R0 .busy none with state := if jump.isNone then .ready else .done, pending := jump } l', ∀ c ∈ x.frs, c ∈ O ∨ Wy.heap.size ≤ c := fun x hx c hc => h5.fr x hx c hc
            refine ⟨⟨hst.sz, rfl, hst.sl, hst.kp.trans h5.kp (fun i hi => (hOC i hi).imp id (fun h => Nat.le_trans st.ll.1 h)), h5.ok, ⟨st.ll.1, Nat.le_trans hst.ll.2 h5.kp.same.size⟩, fun x hx c hc => (hid x hx c hc).elim (fun h => hOC c h) (fun h => .inr (Nat.le_trans hst.ll.2 h)), h5.nd, h5.dj, fun x hx q hq => (by rw [os_of_bs (hpn _ _ hl' x hx)] at hq; cases hq), fun x hx B hB => (by rw [hpn _ _ hl' x hx] at hB; cases hB), ⟨hst.rk.1, fun x hx r hr => .inl (hrs r)⟩⟩, ?_, ?_, h5.kp⟩
            · intro i hi
              obtain ⟨x, hx, hxi⟩ := List.mem_flatMap.1 hi
              exact hid x hx i (HA.ids_frs hxi)
            · intro i hi
              obtain ⟨x, hx, hxi⟩ := List.mem_flatMap.1 hi
              rcases h5.rk.2 x hx i hxi with (h6 | h6 | h6) | h6
              · exact .inl h6
              · exact .inr (.inl h6)
              · exact .inr (.inr (.inl h6))
              · exact .inr (.inr (.inr h6))
          cases e with
          | normal =>
            obtain ⟨t', ht', hst4⟩ := hq4
            obtain ⟨w', hr, hst5, h6, h7, h8⟩ := finish _ none (R0 .ready none) hst4 rfl (hηn _ _)
            exact ⟨_, w', hr, _, _, h6, h7, h8, fun i hi => hlow hst5 i hi, .inl ⟨rfl, t', ht', hst5, rfl, rfl⟩⟩
          | exit i =>
            obtain ⟨J', hj', hq5⟩ := hq4
            have hij : i = jid := by
              by_cases hij : i = jid
              · exact hij
              · rw [List.lookup_cons] at hj'
                have : (i == jid) = false := by simpa using hij
                rw [this] at hj'; cases hj'
            subst hij
            rw [List.lookup_cons] at hj'
            simp only [beq_self_eq_true, Option.some.injEq] at hj'
            subst hj'
            obtain ⟨t', ht', hst4⟩ := hq5
            obtain ⟨w', hr, hst5, h6, h7, h8⟩ := finish _ (some (.exit i)) (R0 .done (some (.exit i))) hst4 rfl (hηx _)
            exact ⟨_, w', hr, _, _, h6, h7, h8, fun i hi => hlow hst5 i hi, .inr ⟨rfl, t', ht', hst5, rfl, rfl⟩⟩
          | ret => exact hq4.elim
          | goto _ => exact hq4.elim
          | panic _ => exact hq4.elim
          | outgrown => exact hq4.elim
      have e2 : (fun (tmps : Array Value) (x : Nat × Value) => match x with | (t, a) => tmps.setIfInBounds t a) = (fun (tmps : Array Value) (x : Nat × Value) => tmps.setIfInBounds x.1 x.2) := rfl
      rw [← hzip] at hw2
      exact hw2
    · rintro e W3 ⟨⟨v, rfl⟩, O', R', hJ⟩
      rcases hJ with ⟨t, ht, hst, -, -⟩ | ⟨t, ht, hst, -, -⟩
      · have hl3 : W3.heap[lI]? = some (.loop (R0 .ready none)) := hst.ok _ (List.mem_cons_self ..)
        have hr := run_endLoop (P := P) hl3 (by simp [R0])
        refine ⟨none, _, hr, ?_⟩
        have h5 := hst.putobj (.loop { R0 .ready none with state := .exhausted })
        have h6 : St X1 s (.obj D (.deferred (some [])) :: η nv t) a1 _ := St.drop (out := [_]) h5
        exact hdone D t ht _ _ ⟨h6.sz, by show _ ++ _ = _; rw [st.df]; rfl, h6.sl, h6.kp, h6.ok, h6.ll, h6.fr, h6.nd, h6.dj, h6.iv, h6.ib, h6.rk⟩
      · have hl3 : W3.heap[lI]? = some (.loop (R0 .done (some (.exit jid)))) := hst.ok _ (List.mem_cons_self ..)
        have hr := run_endLoop (P := P) hl3 (by simp [R0])
        refine ⟨some (.exit jid), _, hr, ?_⟩
        have h5 := hst.putobj (.loop { R0 .done (some (.exit jid)) with state := .exhausted })
        have h6 : St X1 s (.obj D (.deferred (some [])) :: ηx t) a1 _ := St.drop (out := [_]) h5
        exact hstop D t ht _ _ ⟨h6.sz, by show _ ++ _ = _; rw [st.df]; rfl, h6.sl, h6.kp, h6.ok, h6.ll, h6.fr, h6.nd, h6.dj, h6.iv, h6.ib, h6.rk⟩
end Go.Proofs.YtlplpmkdebemnaaDoor.Fw
namespace Go.Proofs.YtlplpmkdebemnaaDoor
set_option linter.unusedVariables false
set_option linter.unusedSimpArgs false
open Go.RowKit Bv
section
variable {P : Program} (w : World)
theorem cells_b8 (xs : List (BitVec 8)) : xs.map b8 = (xs.map UInt8.ofBitVec).map Extern.Stop.cell := by
  rw [List.map_map]; rfl
theorem map_of_beq (xs ys : List (BitVec 8)) : (xs.map UInt8.ofBitVec == ys.map UInt8.ofBitVec) = (xs == ys) := by
  rw [Bool.eq_iff_iff]
  simp only [beq_iff_eq]
  exact ⟨fun h => (List.map_inj_right (fun x y h => by cases h; rfl)).1 h, fun h => by rw [h]⟩
theorem run_equalIn_arr (d : Nat) (t e : TypeId) (n : Nat) (xs ys : List (BitVec 8)) (ht : P.underlying t = some (.array n e)) (he : P.underlying e = some (.int .u8)) (hs : (P.info? e).map (·.size) = some 1) (hx : xs.length = n) (hy : ys.length = n) :
    (Op.equalIn (d + 2) t (.agg (xs.map b8).toArray) (.agg (ys.map b8).toArray)).run P w = .ok (xs == ys) w := by
  obtain ⟨i, hi, hi2⟩ := Option.map_eq_some_iff.1 hs
  have hsz : ∀ w, (sizeOf e).run P w = .ok 1 w := fun w => by simp [sizeOf, typeInfo, hi, hi2]
  rw [cells_b8, cells_b8, run_equalIn_bytes w d t e n ht he hsz _ _ (by simpa using hx) (by simpa using hy), map_of_beq]
theorem run_neq_arr (t e : TypeId) (n : Nat) (xs ys : List (BitVec 8)) (ht : P.underlying t = some (.array n e)) (he : P.underlying e = some (.int .u8)) (hs : (P.info? e).map (·.size) = some 1) (hx : xs.length = n) (hy : ys.length = n) :
    (binOp .neq t (.agg (xs.map b8).toArray) (.agg (ys.map b8).toArray)).run P w = .ok (.bool (!(xs == ys))) w := by
  rw [run_neq_struct, run_equalIn_arr w 9998 t e n xs ys ht he hs hx hy]; rfl
theorem run_eql_arr (t e : TypeId) (n : Nat) (xs ys : List (BitVec 8)) (ht : P.underlying t = some (.array n e)) (he : P.underlying e = some (.int .u8)) (hs : (P.info? e).map (·.size) = some 1) (hx : xs.length = n) (hy : ys.length = n) :
    (binOp .eql t (.agg (xs.map b8).toArray) (.agg (ys.map b8).toArray)).run P w = .ok (.bool (xs == ys)) w := by
  rw [run_eql_struct, run_equalIn_arr w 9998 t e n xs ys ht he hs hx hy]; rfl
theorem run_eql_nilFunc (t : TypeId) (f : Fn) (a b : Array Value) (ps rs : Array TypeId) (v : Bool) (ht : P.underlying t = some (.func ps rs v)) :
    (binOp .eql t (.func f #[] b) .nilFunc).run P w = .ok (.bool false) w := by
  have h : (Op.equalIn (9999 + 1) t (.func f #[] b) .nilFunc).run P w = .ok false w := by
    rw [Op.equalIn]
    simp only [Sem.run_bind, run_underlying ht, Result.andThen_ok]
    rfl
  simp only [binOp]
  simp [Op.equal, Op.maxDepth, h]
end
end Go.Proofs.YtlplpmkdebemnaaDoor
namespace Go.Proofs.YtlplpmkdebemnaaDoor.Fw
set_option linter.unusedVariables false
set_option linter.unusedSimpArgs false
open Go.RowKit Bv
/-- The text of some bytes. -/
def sob (xs : List (BitVec 8)) : ByteArray := ⟨(xs.map fun b => (⟨b⟩ : UInt8)).toArray⟩
theorem sob_inj {xs ys : List (BitVec 8)} (h : sob xs = sob ys) : xs = ys := by
  have h2 : (xs.map fun b => (⟨b⟩ : UInt8)) = (ys.map fun b => (⟨b⟩ : UInt8)) := by
    have := congrArg (fun s : ByteArray => s.data.toList) h
    simpa [sob] using this
  have h3 := congrArg (List.map UInt8.toBitVec) h2
  rw [List.map_map, List.map_map, show (UInt8.toBitVec ∘ fun b : BitVec 8 => (⟨b⟩ : UInt8)) = id from rfl, List.map_id, List.map_id] at h3
  exact h3
theorem ba_inj {a b : ByteArray} (h : a.data.toList = b.data.toList) : a = b := by
  cases a; cases b; simp at h; rw [h]
theorem sob_beq (xs ys : List (BitVec 8)) : ((sob xs).toList == (sob ys).toList) = decide (xs = ys) := by
  rw [ByteArray.toList_eq, ByteArray.toList_eq, Bool.eq_iff_iff, beq_iff_eq, decide_eq_true_eq]
  exact ⟨fun h => sob_inj (ba_inj h), fun h => by rw [h]⟩
theorem rd_of_rdv {w : World} {A : Option Addr} {n c : Nat} {xs : List (BitVec 8)} (h : RdV w A 1 n c (xs.map b8)) : Rd b8 w A n c xs :=
  ⟨by have := h.len; simpa using this, h.le, h.most, h.isn, fun ad e j hj => h.cells ad e j _ (by
    have hl : j < xs.length := by have := h.len; simp at this; omega
    rw [List.getElem?_map, List.getElem?_eq_getElem hl, ath_get xs j hl]; rfl)⟩
theorem rdv_of_rd {w : World} {A : Option Addr} {n c : Nat} {xs : List (BitVec 8)} (h : Rd b8 w A n c xs) : RdV w A 1 n c (xs.map b8) :=
  ⟨by simp [h.len], h.le, h.most, h.isn, fun ad e j v hj => by
    have hl : j < xs.length := by have := (List.getElem?_eq_some_iff.1 hj).1; simpa using this
    rw [h.cells ad e j (by rw [← h.len]; exact hl)]
    rw [List.getElem?_map, List.getElem?_eq_getElem hl, ← ath_get xs j hl] at hj
    simpa using hj⟩
section
variable {P : Program} {X : Cx} {s : List (Nat × Value)} {h : List HA} {a : Act} {w : World} {o : Oper} {K K0 : Jd} {v : Value}
theorem run_cbs (w : World) (src e dst : TypeId) (hs : P.underlying src = some (.slice e)) (he : P.underlying e = some (.int .u8)) (hd : P.underlying dst = some .string)
    {A : Option Addr} {n c : Nat} {xs : List (BitVec 8)} (h : RdV w A 1 n c (xs.map b8)) : (convert src dst (.slice A n c)).run P w = .ok (.string (sob xs)) w := by
  cases A with
  | none =>
    have := h.isn rfl
    have hn : n = 0 := by have := h.le; omega
    subst hn
    have : xs = [] := List.eq_nil_of_length_eq_zero (by have := h.len; simpa using this)
    subst this
    exact run_convert_bytes_nil w src e hs he 0 c dst hd
  | some ad =>
    have hl : (loadCells ad n).run P w = .ok ((xs.map n8).map (Value.int .u8)).toArray w := by
      have h2 := run_loadCells_list (P := P) w ad (xs.map b8) (fun j v hj => h.cells ad rfl j v hj)
      have h3 : (xs.map b8).length = n := by have := h.len; simpa using this
      rw [h3] at h2
      simpa [List.map_map, Function.comp_def] using h2
    rw [run_convert_bytes_string w src dst e _ n c hs he hd, run_bytesToString w _ n c _ hl, foldl_push_bytes]
    have hf : ((fun n => UInt8.ofNat n.toNat) ∘ n8) = fun b : BitVec 8 => (⟨b⟩ : UInt8) := by
      funext b; simp [n8]
    simp only [sob, ByteArray.empty, ByteArray.emptyWithCapacity, List.map_map, hf]
    simp
    rfl
theorem ld_str {A : Option Addr} {n c : Nat} {xs : List (BitVec 8)} {x : Operand} {src dst e : TypeId} (hs : Src h A 1 n c (xs.map b8)) (h1 : P.underlying src = some (.slice e)) (h2 : P.underlying e = some (.int .u8)) (h3 : P.underlying dst = some .string) (ho : o.op = .convert src dst x) (hx : ev s x = some (.slice A n c)) : Ld P s h o (.string (sob xs)) := fun e' he w hw => by
  unfold execOp; rw [ho]
  simp only [he _ _ hx]
  rw [Sem.run_bind, run_cbs w src e dst h1 h2 h3 (hs w hw).1]; rfl
theorem pr_streq {t t2 : TypeId} {x y : Operand} {xs ys : List (BitVec 8)} (ho : o.op = .binOp .eql t x y t2) (hx : ev s x = some (.string (sob xs))) (hy : ev s y = some (.string (sob ys))) : Pr P s h o (.bool (decide (xs = ys))) := fun e he w hw w' => by
  have hb := sob_beq xs ys
  unfold execOp; rw [ho]
  simp only [he _ _ hx, he _ _ hy]
  have hg : (eqGuard .eql t x y (.string (sob xs)) (.string (sob ys))).run P w' = .ok () w' := by unfold eqGuard; simp
  rw [Sem.run_bind, Sem.run_bind, hg]
  simp [binOp, Op.stringOp, hb]
theorem pr_strne {t t2 : TypeId} {x y : Operand} {xs ys : List (BitVec 8)} (ho : o.op = .binOp .neq t x y t2) (hx : ev s x = some (.string (sob xs))) (hy : ev s y = some (.string (sob ys))) : Pr P s h o (.bool (!decide (xs = ys))) := fun e he w hw w' => by
  have hb := sob_beq xs ys
  unfold execOp; rw [ho]
  simp only [he _ _ hx, he _ _ hy]
  have hg : (eqGuard .neq t x y (.string (sob xs)) (.string (sob ys))).run P w' = .ok () w' := by unfold eqGuard; simp
  rw [Sem.run_bind, Sem.run_bind, hg]
  simp [binOp, Op.stringOp, bne, hb]
/-- A row that a text's bytes lie in: nobody writes it. -/
theorem op_mark {d : Nat} {t e e2 : TypeId} {x : Operand} {g n c : Nat} {cs zs : List Value} (i : Nat) (hi : h[i]? = some (.blk g e2 cs)) (ht : P.underlying t = some (.slice e)) (he : P.underlying e = some (.int .u8)) (hnc : n ≤ c) (hc : c ≤ 9223372036854775807) (hl : zs.length = n) (hz : cs.take n = zs)
    (ho : o.op = .convert t t x) (hx : ev s x = some (.slice (some ⟨g, 0, none⟩) n c)) (hd : o.dst = some d) (hN : Nat.blt d X.N = true)
    (hh : Tr X ((d, .slice (some ⟨g, 0, none⟩) n c) :: s) (.old (some ⟨g, 0, none⟩) 1 n c zs :: h.eraseIdx i) K) : Tr X s h (Op P o K K0) := fun a w st => by
  have hb : w.heap[g]? = some (.cells cs.toArray e2 (0, 0)) := st.ok _ (List.mem_of_getElem? hi)
  have hlt := (Array.getElem?_eq_some_iff.1 hb).1
  have hr : (execOp a.eval o).run P w = .ok (.value (.slice (some ⟨g, 0, none⟩) n c)) (w.freeze ⟨g, cs.length, none⟩ 1) := by
    unfold execOp; rw [ho]
    simp [st.ag _ _ hx, convert, run_underlying ht, run_underlying he, markStringish, shape, freeze, Sem.run, World.shape?, hb]
  have hf : (w.freeze ⟨g, cs.length, none⟩ 1).heap[g]? = some (.cells cs.toArray e2 (cs.length, cs.length + 1)) := by
    simp [World.freeze, Array.getElem?_modify, hb]
  have hcell : ∀ ad : Addr, ad.block = g → (w.freeze ⟨g, cs.length, none⟩ 1).cell? ad = w.cell? ad := by
    intro ad had; simp [World.cell?, had, hf, hb]
  have hrd := rdv_blk (w := w) (g := g) (m := 0) (z := 1) (n := n) (c := c) (ds := zs) hb (by simpa using hl) (by simpa using hz) hnc hc
  refine op_val hr ?_
  rw [hd]
  refine hh _ _ (st.swapv [.blk g e2 cs] (h.eraseIdx i) [.old (some ⟨g, 0, none⟩) 1 n c zs] (perm_erase h i _ hi) hN _ ⟨⟨rfl, rfl, rfl, by simp [World.freeze]⟩, fun k _ hk => ?_⟩ ?_ ?_ ?_ ?_)
  · simp only [World.freeze, if_neg (show ¬ (1 = 0) by omega), Array.getElem?_modify]
    rw [if_neg (fun e => hk (by simp [HA.ids, e]))]
  · intro x hx; rw [List.mem_singleton] at hx; subst hx
    refine ⟨⟨hrd.len, hrd.le, hrd.most, hrd.isn, fun ad e j v hj => ?_⟩, fun ad e => ?_⟩
    · rw [hcell _ (by rw [add_block]; cases e; rfl)]; exact hrd.cells ad e j v hj
    · cases e; intro _; simpa [World.freeze] using hlt
  · intro x hx k hk; rw [List.mem_singleton] at hx; subst hx; exact .inl (by obtain ⟨_, ad, e1, h2⟩ := mem_rid.1 hk; cases e1; simp [HA.ids, ← h2])
  · simp [HA.ids]
  · intro x hx r hr; rw [List.mem_singleton] at hx; subst hx; exact ⟨hr, by intro y hy; rw [List.mem_singleton] at hy; subst hy; simp [HA.ids]⟩
theorem src_take {A : Option Addr} {z n m c : Nat} {cs : List Value} (hs : Src h A z m c cs) (hn : n ≤ m) : Src h A z n c (cs.take (n * z)) := fun w hw => by
  obtain ⟨hr, hb⟩ := hs w hw
  refine ⟨⟨?_, Nat.le_trans hn hr.le, hr.most, hr.isn, fun ad e j v hj => hr.cells ad e j v ?_⟩, hb⟩
  · rw [List.length_take, hr.len]
    have : n * z ≤ m * z := Nat.mul_le_mul_right z hn
    omega
  · rw [List.getElem?_take] at hj
    split at hj
    · exact hj
    · cases hj
theorem src_take8 {A : Option Addr} {n m c : Nat} {β : Type} {f : β → Value} {xs : List β} (hs : Src h A 1 m c (xs.map f)) (hn : n ≤ m) : Src h A 1 n c ((xs.take n).map f) := by
  have := src_take (n := n) hs hn
  rwa [Nat.mul_one, ← List.map_take] at this
/-- Two arrays or structs held against each other. -/
theorem pr_eqagg {bo : BinOp} {ty ty2 : TypeId} {x y : Operand} {xs ys : List Value} {c r : Bool} (hr : ∀ d w, (Op.equalIn (d + 2) ty (.agg xs.toArray) (.agg ys.toArray)).run P w = .ok c w) (hg : Program.eqGuardType P (Program.depth P) ty = false) (hb : (match bo with | .eql => c | .neq => !c | _ => r) = r) (hbo : (bo == .eql || bo == .neq) = true)
    (ho : o.op = .binOp bo ty x y ty2) (hx : ev s x = some (.agg xs.toArray)) (hy : ev s y = some (.agg ys.toArray)) : Pr P s h o (.bool r) := fun e he w hw w' => by
  unfold execOp
  simp only [ho, he _ _ hx, he _ _ hy, Sem.run_bind, run_eqGuard_agg w' _ _ _ _ _ _ hg, Result.andThen_ok]
  have h1 := hr 9998 w'
  cases bo <;> first
    | (cases hbo; done)
    | (simp only at hb; subst hb; rw [run_eql_struct, h1]; rfl)
    | (simp only at hb; subst hb; rw [run_neq_struct, h1]; rfl)
theorem eqb8 {ty e : TypeId} {n : Nat} {xs ys : List (BitVec 8)} (ht : P.underlying ty = some (.array n e)) (he : P.underlying e = some (.int .u8)) (hs : (P.info? e).map (·.size) = some 1) (hx : xs.length = n) (hy : ys.length = n) : ∀ d w, (Op.equalIn (d + 2) ty (.agg (xs.map b8).toArray) (.agg (ys.map b8).toArray)).run P w = .ok (xs == ys) w :=
  fun d w => run_equalIn_arr w d ty e n xs ys ht he hs hx hy
/-- Numbers of one kind. -/
theorem no_i64 {a b : Nat} (ha : a < 9223372036854775808) (hb : b < 9223372036854775808) : Op.intBits .or .i64 (a : Int) (b : Int) = pure (.int .i64 ((a ||| b : Nat) : Int)) := by
  show (pure (Value.int .i64 (IntKind.i64.wrap ((BitVec.ofInt 64 (a : Int) ||| BitVec.ofInt 64 (b : Int)).toNat : Int))) : Sem Value) = _
  have h1 : (BitVec.ofInt 64 (a : Int) ||| BitVec.ofInt 64 (b : Int)).toNat = a ||| b := by
    rw [BitVec.toNat_or, BitVec.ofInt_natCast, BitVec.ofInt_natCast, BitVec.toNat_ofNat, BitVec.toNat_ofNat, Nat.mod_eq_of_lt (by omega), Nat.mod_eq_of_lt (by omega)]
  have h2 : a ||| b < 2 ^ 63 := Nat.or_lt_two_pow (by simpa using ha) (by simpa using hb)
  rw [h1]
  have h3 : IntKind.i64.wrap ((a ||| b : Nat) : Int) = ((a ||| b : Nat) : Int) := by generalize a ||| b = q at h2; rw [IntKind.wrap_i64]; omega
  rw [h3]
theorem nsh_i64 {a m : Nat} (h : a * 2 ^ m ≤ 9223372036854775807) (hm : m < 64) : Op.shift .shl .i64 (a : Int) .u64 (m : Int) = pure (.int .i64 ((a * 2 ^ m : Nat) : Int)) := by
  unfold Op.shift
  have h0 : ¬ ((m : Int) < 0) := by omega
  have h1 : min ((m : Int)).toNat (IntKind.bits .i64) = m := by simp [IntKind.bits]; omega
  simp only [h0, if_false, h1]
  have h2 : (a : Int) * 2 ^ m = ((a * 2 ^ m : Nat) : Int) := by simp
  rw [h2]
  have h3 : IntKind.i64.wrap ((a * 2 ^ m : Nat) : Int) = ((a * 2 ^ m : Nat) : Int) := by generalize a * 2 ^ m = q at h; rw [IntKind.wrap_i64]; omega
  rw [h3]
end
end Go.Proofs.YtlplpmkdebemnaaDoor.Fw
namespace Go.Proofs.YtlplpmkdebemnaaDoor.Fw
set_option linter.unusedVariables false
set_option linter.unusedSimpArgs false
open Go.RowKit Bv
variable {X : Cx} {s : List (Nat × Value)} {h : List HA} {P : Program} {o : Oper} {K K0 : Jd}
/-- append into a block's room. -/
theorem op_app_room {d : Nat} {t e : TypeId} {x y : Operand} {g n m c k : Nat} {A : Option Addr} {cs news cs' : List Value} (i : Nat) (hi : h[i]? = some (.blk g e cs)) (ht : P.underlying t = some (.slice e)) (hz : (P.info? e).map (·.size) = some 1)
    (hs : Src h A 1 m c news) (h1 : ∀ u ∈ news, u.oneCell' = true) (hm : n + m ≤ k) (hl : k ≤ cs.length) (hc : cs.take n ++ news ++ cs.drop (n + m) = cs')
    (ho : o.op = .call { callee := .builtin .append, args := #[x, y], argTypes := #[t, t] }) (hx : ev s x = some (.slice (some ⟨g, 0, none⟩) n k)) (hy : ev s y = some (.slice A m c)) (hd : o.dst = some d) (hN : Nat.blt d X.N = true)
    (hh : Tr X ((d, .slice (some ⟨g, 0, none⟩) (n + m) k) :: s) (.blk g e cs' :: h.eraseIdx i) K) : Tr X s h (Op P o K K0) := fun a w st => by
  have hb : w.heap[g]? = some (.cells cs.toArray e (0, 0)) := st.ok _ (List.mem_of_getElem? hi)
  have hrd := (hs w st.ok).1
  have hnl : news.length = m := by have := hrd.len; simpa using this
  obtain ⟨ti, hi1, hi2⟩ := Option.map_eq_some_iff.1 hz
  cases A with
  | none =>
    have h0 := hrd.isn rfl; have h2 := hrd.le
    obtain rfl : m = 0 := by omega
    obtain rfl : c = 0 := h0
    obtain rfl : news = [] := List.eq_nil_of_length_eq_zero hnl
    have hc2 : cs = cs' := by rw [← hc]; simp
    subst hc2
    have hr : (execOp a.eval o).run P w = .ok (.value (.slice (some ⟨g, 0, none⟩) (n + 0) k)) w := by
      have hkn : n ≤ k := by omega
      unfold execOp
      rw [ho]
      simp [resolve, invoke, builtin, st.ag _ _ hx, st.ag _ _ hy, Builtin.append_, run_underlying ht, sizeOf, typeInfo, hi1, Builtin.lenOf, Builtin.firstCells, hkn, hi2, storeCells]
    refine op_val hr ?_
    rw [hd]
    exact hh _ _ ((st.perm (perm_erase h i _ hi)).put (Nat.blt_eq.mp hN) _)
  | some ad =>
  have hr : (execOp a.eval o).run P w = .ok (.value (.slice (some ⟨g, 0, none⟩) (n + m) k)) (w.setRow g cs'.toArray) := by
    have := run_append_room (P := P) w t o.type e ti ht hi1 g n k cs.toArray hb ad m c news (by rw [hi2]; simpa using hnl) (fun j u hu => hrd.cells ad rfl j u hu) h1 hm (by rw [hi2, hnl]; simp; omega)
    rw [hi2, hnl, Nat.mul_one] at this
    simp only at this
    rw [hc] at this
    unfold execOp
    rw [ho]
    simp [resolve, invoke, builtin, st.ag _ _ hx, st.ag _ _ hy, this]
  refine op_val hr ?_
  rw [hd]
  refine hh _ _ (st.swapv [.blk g e cs] (h.eraseIdx i) [.blk g e cs'] (perm_erase h i _ hi) hN _ ⟨⟨rfl, rfl, rfl, by simp⟩, fun k _ hk => setRow_other w g k _ (fun e => hk (by simp [HA.ids, e]))⟩ ?_ ?_ ?_ ?_)
  · intro x hx; rw [List.mem_singleton] at hx; subst hx; exact setRow_heap w g _ _ e _ hb
  · intro x hx k hk; rw [List.mem_singleton] at hx; subst hx; exact .inl (by simpa [HA.ids, HA.frs] using hk)
  · simp [HA.ids]
  · intro x hx r hr; rw [List.mem_singleton] at hx; subst hx; cases hr
/-- s[:k], up to the capacity. -/
theorem pr_slup {t e : TypeId} {x hi : Operand} {A : Option Addr} {n c u z : Nat} {k2 : IntKind} (huc : u ≤ c) (ht : P.underlying t = some (.slice e)) (hz : (P.info? e).map (·.size) = some z)
    (ho : o.op = .slice t x none (some hi) none) (hx : ev s x = some (.slice A n c)) (hu : ev s hi = some (.int k2 (u : Int))) : Pr P s h o (.slice A u c) := fun e' he w hw w' => by
  have g1 : (0 : Int) ≤ (u : Int) ∧ (u : Int) ≤ c := by omega
  have g5 : ¬ c < u := by omega
  unfold execOp; rw [ho]
  cases A with
  | none => simp [he _ _ hx, he _ _ hu, Instr.sliceAt, run_underlying ht, Instr.slice, Instr.sliceBounds, Instr.sliceBound, asIntOf, g1, huc, g5, run_sizeOf hz]
  | some ad => simp [he _ _ hx, he _ _ hu, Instr.sliceAt, run_underlying ht, Instr.slice, Instr.sliceBounds, Instr.sliceBound, asIntOf, g1, huc, g5, run_sizeOf hz, add0]
/-- s[:k:k], up to the capacity. -/
theorem pr_slup3 {t e : TypeId} {x hi mx : Operand} {A : Option Addr} {n c u z : Nat} {k2 k3 : IntKind} (huc : u ≤ c) (ht : P.underlying t = some (.slice e)) (hz : (P.info? e).map (·.size) = some z)
    (ho : o.op = .slice t x none (some hi) (some mx)) (hx : ev s x = some (.slice A n c)) (hu : ev s hi = some (.int k2 (u : Int))) (hm : ev s mx = some (.int k3 (u : Int))) : Pr P s h o (.slice A u u) := fun e' he w hw w' => by
  have g1 : (0 : Int) ≤ (u : Int) ∧ (u : Int) ≤ c := by omega
  have g5 : ¬ c < u := by omega
  unfold execOp; rw [ho]
  cases A with
  | none => simp [he _ _ hx, he _ _ hu, he _ _ hm, Instr.sliceAt, run_underlying ht, Instr.slice, Instr.sliceBounds, Instr.sliceBound, asIntOf, g1, huc, g5, run_sizeOf hz]
  | some ad => simp [he _ _ hx, he _ _ hu, he _ _ hm, Instr.sliceAt, run_underlying ht, Instr.slice, Instr.sliceBounds, Instr.sliceBound, asIntOf, g1, huc, g5, run_sizeOf hz, add0]
/-- s[:]. -/
theorem pr_slall {t e : TypeId} {x : Operand} {A : Option Addr} {n c z : Nat} (hnc : n ≤ c) (ht : P.underlying t = some (.slice e)) (hz : (P.info? e).map (·.size) = some z)
    (ho : o.op = .slice t x none none none) (hx : ev s x = some (.slice A n c)) : Pr P s h o (.slice A n c) := fun e' he w hw w' => by
  have g5 : ¬ c < n := by omega
  have g1 : (n : Int) ≤ c := by omega
  unfold execOp; rw [ho]
  cases A with
  | none => simp [he _ _ hx, Instr.sliceAt, run_underlying ht, Instr.slice, Instr.sliceBounds, Instr.sliceBound, asIntOf, hnc, g1, g5, run_sizeOf hz]
  | some ad => simp [he _ _ hx, Instr.sliceAt, run_underlying ht, Instr.slice, Instr.sliceBounds, Instr.sliceBound, asIntOf, hnc, g1, g5, run_sizeOf hz, add0]
/-- s[l:]. -/
theorem pr_sllo {t e : TypeId} {x lo : Operand} {g m m' n c l : Nat} {k2 : IntKind} (hln : l ≤ n ∧ n ≤ c) (hl0 : l < c ∨ l = 0) (hm : m + l = m') (ht : P.underlying t = some (.slice e)) (hz : (P.info? e).map (·.size) = some 1)
    (ho : o.op = .slice t x (some lo) none none) (hx : ev s x = some (.slice (some ⟨g, m, none⟩) n c)) (hu : ev s lo = some (.int k2 (l : Int))) : Pr P s h o (.slice (some ⟨g, m', none⟩) (n - l) (c - l)) := fun e' he w hw w' => by
  subst hm
  have g1 : (0 : Int) ≤ (l : Int) ∧ (l : Int) ≤ n := by omega
  have g2 : (n : Int) ≤ c := by omega
  have g3 : ¬ c < n := by omega
  have g4 : ¬ n < l := by omega
  have g5 : n ≤ c := hln.2
  have g6 : l ≤ n := hln.1
  unfold execOp; rw [ho]
  by_cases hcl : c = l
  · obtain rfl : l = 0 := by omega
    subst hcl
    obtain rfl : n = 0 := by omega
    simp [he _ _ hx, he _ _ hu, Instr.sliceAt, run_underlying ht, Instr.slice, Instr.sliceBounds, Instr.sliceBound, asIntOf, run_sizeOf hz, add0]
  · have g7 : ¬ c - l = 0 := by omega
    have g8 : l < c := by omega
    simp [he _ _ hx, he _ _ hu, Instr.sliceAt, run_underlying ht, Instr.slice, Instr.sliceBounds, Instr.sliceBound, asIntOf, g1, g2, g3, g4, g5, g6, g7, g8, hcl, run_sizeOf hz, Addr.add]
/-- The beginning of a row of the call's own that nobody writes any more. -/
theorem T_pre {J : Jd} (i : Nat) {A : Option Addr} {z n c : Nat} {cs : List Value} (m : Nat) (cs' : List Value) (hi : h[i]? = some (.old A z n c cs)) (hm : m ≤ n) (hc : cs.take (m * z) = cs') (hh : Tr X s (.old A z m c cs' :: h) J) : Tr X s h J := fun a w st => by
  have hmem := List.mem_of_getElem? hi
  have hx := st.ok _ hmem
  have hr : RdV w A z m c cs' := by
    subst hc
    have hle : m * z ≤ n * z := Nat.mul_le_mul_right z hm
    refine ⟨by rw [List.length_take, hx.1.len]; omega, Nat.le_trans hm hx.1.le, hx.1.most, hx.1.isn, fun ad e j v hj => ?_⟩
    rw [List.getElem?_take] at hj
    split at hj
    · exact hx.1.cells ad e j v hj
    · cases hj
  refine hh a w ⟨st.sz, st.df, st.sl, st.kp, ?_, st.ll, ?_, ?_, ?_, ?_, ?_, ⟨st.rk.1, ?_⟩⟩
  · intro x hx'
    rcases List.mem_cons.1 hx' with rfl | hx'
    · exact ⟨hr, hx.2⟩
    · exact st.ok x hx'
  · intro x hx' k hk
    rcases List.mem_cons.1 hx' with rfl | hx'
    · exact st.fr _ hmem k hk
    · exact st.fr x hx' k hk
  · simpa [HA.ids] using st.nd
  · intro x hx' y hy r hrr
    rcases List.mem_cons.1 hy with rfl | hy
    · simp [HA.ids]
    · rcases List.mem_cons.1 hx' with rfl | hx'
      · exact st.dj _ hmem y hy r hrr
      · exact st.dj x hx' y hy r hrr
  · intro x hx' o ho y hy hyb hor
    rcases List.mem_cons.1 hx' with rfl | hx'
    · cases ho
    · rcases List.mem_cons.1 hy with rfl | hy
      · exact st.iv x hx' o ho _ hmem rfl hor
      · exact st.iv x hx' o ho y hy hyb hor
  · intro x hx' B hB
    rcases List.mem_cons.1 hx' with rfl | hx'
    · cases hB
    · exact st.ib x hx' B hB
  · intro x hx' r hrr
    rcases List.mem_cons.1 hx' with rfl | hx'
    · exact st.rk.2 _ hmem r hrr
    · exact st.rk.2 x hx' r hrr
/-- The same, with less room. -/
theorem T_prec {J : Jd} (i : Nat) {A : Option Addr} {z n c : Nat} {cs : List Value} (m c2 : Nat) (cs' : List Value) (hi : h[i]? = some (.old A z n c cs)) (hm : m ≤ n) (hm2 : m ≤ c2) (hc2 : c2 ≤ c) (h0 : 0 < c2) (hc : cs.take (m * z) = cs') (hh : Tr X s (.old A z m c2 cs' :: h) J) : Tr X s h J := fun a w st => by
  have hmem := List.mem_of_getElem? hi
  have hx := st.ok _ hmem
  have hsub : ∀ r, r ∈ rid A c2 → r ∈ rid A c := fun r hr => mem_rid.2 ⟨by omega, (mem_rid.1 hr).2⟩
  have hr : RdV w A z m c2 cs' := by
    subst hc
    have hle : m * z ≤ n * z := Nat.mul_le_mul_right z hm
    refine ⟨by rw [List.length_take, hx.1.len]; omega, hm2, Nat.le_trans hc2 hx.1.most, fun e => absurd (hx.1.isn e) (by omega), fun ad e j v hj => ?_⟩
    rw [List.getElem?_take] at hj
    split at hj
    · exact hx.1.cells ad e j v hj
    · cases hj
  refine hh a w ⟨st.sz, st.df, st.sl, st.kp, ?_, st.ll, ?_, ?_, ?_, ?_, ?_, ⟨st.rk.1, ?_⟩⟩
  · intro x hx'
    rcases List.mem_cons.1 hx' with rfl | hx'
    · exact ⟨hr, fun ad e _ => hx.2 ad e (by omega)⟩
    · exact st.ok x hx'
  · intro x hx' k hk
    rcases List.mem_cons.1 hx' with rfl | hx'
    · exact st.fr _ hmem k (hsub k hk)
    · exact st.fr x hx' k hk
  · simpa [HA.ids] using st.nd
  · intro x hx' y hy r hrr
    rcases List.mem_cons.1 hy with rfl | hy
    · simp [HA.ids]
    · rcases List.mem_cons.1 hx' with rfl | hx'
      · exact st.dj _ hmem y hy r (hsub r hrr)
      · exact st.dj x hx' y hy r hrr
  · intro x hx' o ho y hy hyb hor
    rcases List.mem_cons.1 hx' with rfl | hx'
    · cases ho
    · rcases List.mem_cons.1 hy with rfl | hy
      · exact st.iv x hx' o ho _ hmem rfl (hsub o hor)
      · exact st.iv x hx' o ho y hy hyb hor
  · intro x hx' B hB
    rcases List.mem_cons.1 hx' with rfl | hx'
    · cases hB
    · exact st.ib x hx' B hB
  · intro x hx' r hrr
    rcases List.mem_cons.1 hx' with rfl | hx'
    · exact st.rk.2 _ hmem r (hsub r hrr)
    · exact st.rk.2 x hx' r hrr
/-- One more word that is read. -/
theorem T_rdadd {J : Jd} (x : HA) (h1 : x.ids = []) (h2 : x.frs = []) (h3 : x.os = []) (h4 : x.bs = none) (hok : ∀ w, HOK h w → x.ok w) (hr : ∀ r ∈ x.rids, ∃ y ∈ h, y.bs = none ∧ r ∈ y.rids) (hh : Tr X s (x :: h) J) : Tr X s h J := fun a w st => by
  refine hh a w ⟨st.sz, st.df, st.sl, st.kp, ?_, st.ll, ?_, ?_, ?_, ?_, ?_, ⟨st.rk.1, ?_⟩⟩
  · intro y hy
    rcases List.mem_cons.1 hy with hyx | hy2
    · rw [hyx]; exact hok w st.ok
    · exact st.ok y hy2
  · intro y hy k hk
    rcases List.mem_cons.1 hy with hyx | hy2
    · rw [hyx, h2] at hk; cases hk
    · exact st.fr y hy2 k hk
  · simpa [h1] using st.nd
  · intro y hy z hz r hrr
    rcases List.mem_cons.1 hz with hzx | hz2
    · simp [hzx, h1]
    · rcases List.mem_cons.1 hy with hyx | hy2
      · obtain ⟨y', hy', _, hr'⟩ := hr r (hyx ▸ hrr)
        exact st.dj y' hy' z hz2 r hr'
      · exact st.dj y hy2 z hz2 r hrr
  · intro y hy o ho z hz hzb hor
    rcases List.mem_cons.1 hy with hyx | hy2
    · rw [hyx, h3] at ho; cases ho
    · rcases List.mem_cons.1 hz with hzx | hz2
      · obtain ⟨y', hy', hb', hr'⟩ := hr o (hzx ▸ hor)
        exact st.iv y hy2 o ho y' hy' hb' hr'
      · exact st.iv y hy2 o ho z hz2 hzb hor
  · intro y hy B hB
    rcases List.mem_cons.1 hy with hyx | hy2
    · rw [hyx, h4] at hB; cases hB
    · exact st.ib y hy2 B hB
  · intro y hy r hrr
    rcases List.mem_cons.1 hy with hyx | hy2
    · obtain ⟨y', hy', _, hr'⟩ := hr r (hyx ▸ hrr)
      exact st.rk.2 y' hy' r hr'
    · exact st.rk.2 y hy2 r hrr
theorem T_allnil {J : Jd} (hh : Tr X s (.all [] :: h) J) : Tr X s h J := T_rdadd (.all []) rfl rfl rfl rfl (fun w _ p hp => by cases hp) (fun r hr => by simp [HA.rids] at hr) hh
/-- A list of slices, and one more. -/
theorem T_alladd {J : Jd} (i j : Nat) {L : List Pt} {A : Option Addr} {n c : Nat} {xs : List (BitVec 8)} (hi : h[i]? = some (.all L)) (hj : h[j]? = some (.rd A 1 n c (xs.map b8))) (hh : Tr X s (.all (L ++ [⟨A, n, c, xs⟩]) :: h) J) : Tr X s h J :=
  T_rdadd (.all (L ++ [⟨A, n, c, xs⟩])) rfl rfl rfl rfl (fun w hw p hp => by
    rcases List.mem_append.1 hp with hp | hp
    · exact (hw _ (List.mem_of_getElem? hi) : (HA.all L).ok w) p hp
    · rw [List.mem_singleton] at hp; subst hp
      exact (hw _ (List.mem_of_getElem? hj) : (HA.rd A 1 n c (xs.map b8)).ok w))
    (fun r hr => by
      simp only [HA.rids, List.flatMap_append, List.flatMap_cons, List.flatMap_nil, List.append_nil] at hr
      rcases List.mem_append.1 hr with hr | hr
      · exact ⟨_, List.mem_of_getElem? hi, rfl, hr⟩
      · exact ⟨_, List.mem_of_getElem? hj, rfl, hr⟩) hh
def bi (x : BitVec 64) : Value := .int .i64 (i64 x)
theorem geti {xs : List (BitVec 64)} {m : Nat} (h : m < xs.length) : (xs.map bi)[m]? = some (bi (ath xs m)) := by rw [List.getElem?_map, List.getElem?_eq_getElem h, ath_get xs m h]; rfl
theorem zw_i64 {z : Int} (h : -9223372036854775808 ≤ z ∧ z ≤ 9223372036854775807) : IntKind.i64.wrap z = z := by rw [IntKind.wrap_i64]; omega
theorem all_nil (w : World) : (HA.all []).ok w := by intro p hp; cases hp
theorem all_cons {w : World} {A : Option Addr} {n c : Nat} {xs : List (BitVec 8)} {L : List Pt} (h : (HA.rd A 1 n c (xs.map b8)).ok w) (t : (HA.all L).ok w) : (HA.all (⟨A, n, c, xs⟩ :: L)).ok w := by
  intro p hp
  rcases List.mem_cons.1 hp with rfl | hp
  · exact h
  · exact t p hp
theorem all_app {w : World} {L M : List Pt} (h : (HA.all L).ok w) (t : (HA.all M).ok w) : (HA.all (L ++ M)).ok w := by
  intro p hp
  rcases List.mem_append.1 hp with hp | hp
  · exact h p hp
  · exact t p hp
end Go.Proofs.YtlplpmkdebemnaaDoor.Fw
namespace Go.Proofs.YtlplpmkdebemnaaDoor.Fw
set_option linter.unusedVariables false
set_option linter.unusedSimpArgs false
open Go.RowKit Bv Go.ChangeShapes
section
variable {H : Type} {enc : TypeId × Value → H} {P : Program} {w : World} {base : Nat} {held : Bool} {t e : TypeId}
/-- A slice of whole numbers, whatever its make. -/
theorem open_rd {k : IntKind} {q : Nat} (num : BitVec q → Int) (hall : ∀ (zs : List Int), (∀ n ∈ zs, (Lit.int k n).wf = true) → ∃ xs : List (BitVec q), zs = xs.map num) {A : Option Addr} {len cap : Nat}
    (ht : P.underlying t = some (.slice e)) (he : P.underlying e = some (.int k)) (hc : P.cellsOf e = 1) {fuel : Nat} {x : DataW H × List MemPlace}
    (hf : DataW.trod enc P w base (fun _ => true) held fuel t (Value.slice A len cap).cells.toList = some x) : ∃ xs : List (BitVec q), xs.length = len ∧ HA.ok w (.rd A 1 len cap (xs.map (fun b => Value.int k (num b)))) := by
  rcases open_ints ht he hc hf with ⟨hcs, _⟩ | ⟨y, l, c, zs, hcs, _, hl, hm, hz, _, hcell, hwz⟩
  · simp [Value.cells] at hcs
    obtain ⟨rfl, rfl, rfl⟩ := hcs
    exact ⟨[], rfl, ⟨rfl, Nat.le_refl _, by omega, fun _ => rfl, fun ad h => by cases h⟩, fun ad h => by cases h⟩
  · simp [Value.cells] at hcs
    obtain ⟨rfl, rfl, rfl⟩ := hcs
    obtain ⟨xs, rfl⟩ := hall zs hwz
    have hm' : cap ≤ 9223372036854775807 := hm
    have hz' : xs.length = cap := by simpa using hz
    simp only [List.length_map] at hcell
    refine ⟨xs.take len, by simp; omega, ⟨by simp; omega, hl, by omega, (fun h => by cases h), fun ad e j v hj => ?_⟩, fun ad e h0 => ?_⟩
    · cases e
      rw [List.getElem?_map, List.getElem?_take] at hj
      split at hj
      · rename_i hjl
        rw [hcell j (by omega)]
        rw [List.getElem?_eq_getElem (by omega)] at hj
        simp only [Option.map_some, Option.some.injEq] at hj
        rw [← hj]
        simp [List.getElem?_map, List.getElem?_eq_getElem (show j < xs.length by omega)]
      · cases hj
    · cases e
      have := World.block_lt_of_cell? w _ (hcell 0 (by omega))
      rwa [add_block] at this
theorem list_of {β : Type} {p : Nat → β → Prop} : ∀ (n : Nat), (∀ i, i < n → ∃ b, p i b) → ∃ L : List β, L.length = n ∧ ∀ i b, L[i]? = some b → p i b
  | 0, _ => ⟨[], rfl, fun i b h => by simp at h⟩
  | n + 1, h => by
    obtain ⟨L, hl, hL⟩ := list_of n (fun i hi => h i (by omega))
    obtain ⟨b, hb⟩ := h n (by omega)
    refine ⟨L ++ [b], by simp [hl], fun i c hc => ?_⟩
    by_cases hi : i < n
    · rw [List.getElem?_append_left (by omega)] at hc
      exact hL i c hc
    · rw [List.getElem?_append_right (by omega)] at hc
      have h0 : i - L.length = 0 := by
        have := (List.getElem?_eq_some_iff.1 hc).1
        simpa using this
      rw [h0] at hc
      simp only [List.getElem?_cons_zero, Option.some.injEq] at hc
      subst hc
      obtain rfl : i = n := by omega
      exact hb
/-- A slice of slices of bytes, whatever its make. -/
theorem open_pts {A : Option Addr} {len cap : Nat} {e8 : TypeId} (ht : P.underlying t = some (.slice e)) (he : P.underlying e = some (.slice e8)) (he8 : P.underlying e8 = some (.int .u8)) (hc : P.cellsOf e = 1) (hc8 : P.cellsOf e8 = 1) {fuel : Nat} {x : DataW H × List MemPlace}
    (hf : DataW.trod enc P w base (fun _ => true) held fuel t (Value.slice A len cap).cells.toList = some x) : ∃ Q : List Pt, Q.length = len ∧ HA.ok w (.rd A 1 len cap (Q.map Pt.sl)) ∧ HA.ok w (.all Q) := by
  rcases DataW.trod_slice ht hf with ⟨hcs, _⟩ | ⟨a, l, c, elems, rest, n, -, hcs, -, hb, hl, hm, hlen, hel, hsp, -⟩
  · simp [Value.cells] at hcs
    obtain ⟨rfl, rfl, rfl⟩ := hcs
    exact ⟨[], rfl, ⟨⟨rfl, Nat.le_refl _, by omega, fun _ => rfl, fun ad h => by cases h⟩, fun ad h => by cases h⟩, fun p hp => by cases hp⟩
  · simp [Value.cells] at hcs
    obtain ⟨rfl, rfl, rfl⟩ := hcs
    have hm' : cap ≤ 9223372036854775807 := hm
    have one : ∀ (i : Nat) (y : DataW H × List MemPlace), (w.cells? base (a.add (i * P.cellsOf e)) (P.cellsOf e)).bind (DataW.trod enc P w base (fun _ => true) held n e) = some y → ∃ p : Pt, w.cell? (a.add i) = some p.sl ∧ HA.ok w (.rd p.A 1 p.n p.c (p.xs.map b8)) := by
      intro i y hy
      rw [hc, Nat.mul_one] at hy
      obtain ⟨cs, h1, h2⟩ := Option.bind_eq_some_iff.1 hy
      rcases DataW.trod_slice he h2 with ⟨hcs2, _⟩ | ⟨a2, l2, c2, _, _, _, _, hcs2, _⟩
      · subst hcs2
        exact ⟨⟨none, 0, 0, []⟩, cell_of_cells?_one h1, ⟨rfl, Nat.le_refl _, Nat.zero_le _, fun _ => rfl, fun ad h => by cases h⟩, fun ad h => by cases h⟩
      · subst hcs2
        obtain ⟨xs, hxl, hx⟩ := open_rd (A := some a2) (len := l2) (cap := c2) n8 all8 he he8 hc8 (by simpa [Value.cells] using h2)
        exact ⟨⟨some a2, l2, c2, xs⟩, cell_of_cells?_one h1, hx⟩
    have hall : ∀ i, i < len → ∃ p : Pt, w.cell? (a.add i) = some p.sl ∧ HA.ok w (.rd p.A 1 p.n p.c (p.xs.map b8)) := by
      intro i hi
      have h1 := hel i hi
      rw [List.getElem?_eq_getElem (by omega)] at h1
      exact one i _ h1
    have h0 : 0 < cap → a.block < w.heap.size := by
      intro hpos
      by_cases hl0 : 0 < len
      · obtain ⟨p, hp, -⟩ := hall 0 hl0
        have := World.block_lt_of_cell? w _ hp
        rwa [add_block] at this
      · obtain ⟨hr1, hr2⟩ := hsp rfl
        have h1 := hr2 0 (by omega)
        rw [List.getElem?_eq_getElem (by omega)] at h1
        obtain ⟨p, hp, -⟩ := one (len + 0) _ h1
        have := World.block_lt_of_cell? w _ hp
        rwa [add_block] at this
    obtain ⟨Q, hQl, hQ⟩ := list_of len hall
    refine ⟨Q, hQl, ⟨⟨by simp [hQl], hl, hm', (fun h => by cases h), fun ad e j v hj => ?_⟩, fun ad e h => ?_⟩, fun p hp => ?_⟩
    · cases e
      rw [List.getElem?_map] at hj
      obtain ⟨p, hp, rfl⟩ := Option.map_eq_some_iff.1 hj
      exact (hQ j p hp).1
    · cases e; exact h0 h
    · obtain ⟨i, hi⟩ := List.mem_iff_getElem?.1 hp
      exact (hQ i p hi).2
end
/-- How a walk by facts ends a law. -/
theorem law_of_ret {P : Program} {f : FuncId} {args : Array Value} {w : World} {q : Unit → Prop} {hs : Unit → List HA} (h : Calls P f args w (Ret [] w q (fun _ => .bool true) hs)) : Calls P f args w fun e W' => e = .returned (.bool true) ∧ Below w.heap.size w W' := below_of_ret h
end Go.Proofs.YtlplpmkdebemnaaDoor.Fw
namespace Go.Proofs.YtlplpmkdebemnaaDoor.Fw
set_option linter.unusedVariables false
set_option linter.unusedSimpArgs false
open Go.RowKit Bv Go.ChangeShapes
section
variable {H : Type} {enc : TypeId × Value → H} {P : Program} {w : World} {base : Nat} {held : Bool} {t e : TypeId}
theorem cons_of {α : Type} {l : List α} {n : Nat} (h : l.length = n + 1) : ∃ a r, l = a :: r ∧ r.length = n := by
  cases l with
  | nil => cases h
  | cons a r => exact ⟨a, r, rfl, by simpa using h⟩
/-- How a struct by value reads: each field by itself. -/
theorem open_struct {fs : Array Field} {r : Reach} {b0 : Nat} {v : Value} (ht : P.underlying t = some (.struct fs)) (hv : Value.okWide P w r b0 t v) {fuel : Nat} {x : DataW H × List MemPlace}
    (hf : DataW.trod enc P w base (fun _ => true) held fuel t v.cells.toList = some x) : ∃ cs : List Value, v = .agg cs.toArray ∧ cs.length = P.cellsOf t ∧ ∀ (i : Nat) (f : Field), fs[i]? = some f → ∃ n y, DataW.trod enc P w base (fun _ => true) held n f.type ((cs.drop f.offset).take (P.cellsOf f.type)) = some y := by
  obtain ⟨cs, rfl, hsz⟩ := WideShapes.okWide_struct ht hv
  simp only [Value.cells] at hf
  obtain ⟨xs, n, -, -, hl, hxl, hfs⟩ := DataW.trod_struct ht hf
  refine ⟨cs.toList, by simp, by simpa using hsz, fun i f hi => ?_⟩
  have h1 := hfs i f hi
  have h2 : i < xs.length := by rw [hxl]; exact (Array.getElem?_eq_some_iff.1 hi).1
  rw [List.getElem?_eq_getElem h2] at h1
  exact ⟨n, _, h1⟩
variable {fs : Array Field} {cs : List Value}
theorem field_int {k : IntKind} {c : Value} (hs : ∀ (i : Nat) (f : Field), fs[i]? = some f → ∃ n y, DataW.trod enc P w base (fun _ => true) held n f.type ((cs.drop f.offset).take (P.cellsOf f.type)) = some y) (i : Nat) {f : Field} (hi : fs[i]? = some f) (ht : P.underlying f.type = some (.int k)) (hc : P.cellsOf f.type = 1) (hd : (cs.drop f.offset).take 1 = [c]) :
    ∃ n, c = .int k n ∧ (Lit.int k n).wf = true := by
  obtain ⟨n, y, h⟩ := hs i f hi
  rw [hc, hd] at h
  obtain ⟨z, h2, _, h3⟩ := DataW.trod_int ht h
  exact ⟨z, by simpa using h2, h3⟩
theorem field_bool {c : Value} (hs : ∀ (i : Nat) (f : Field), fs[i]? = some f → ∃ n y, DataW.trod enc P w base (fun _ => true) held n f.type ((cs.drop f.offset).take (P.cellsOf f.type)) = some y) (i : Nat) {f : Field} (hi : fs[i]? = some f) (ht : P.underlying f.type = some .bool) (hc : P.cellsOf f.type = 1) (hd : (cs.drop f.offset).take 1 = [c]) :
    ∃ b, c = .bool b := by
  obtain ⟨n, y, h⟩ := hs i f hi
  rw [hc, hd] at h
  obtain ⟨z, h2, _⟩ := DataW.trod_bool ht h
  exact ⟨z, by simpa using h2⟩
theorem field_arr {k : IntKind} {c : Value} {q : Nat} (hs : ∀ (i : Nat) (f : Field), fs[i]? = some f → ∃ n y, DataW.trod enc P w base (fun _ => true) held n f.type ((cs.drop f.offset).take (P.cellsOf f.type)) = some y) (i j : Nat) {f : Field} (hi : fs[i]? = some f) (hj : j < q) (ht : P.underlying f.type = some (.array q e)) (he : P.underlying e = some (.int k)) (hce : P.cellsOf e = 1) (hc : P.cellsOf f.type = q) (hd : (((cs.drop f.offset).take q).drop j).take 1 = [c]) :
    ∃ n, c = .int k n ∧ (Lit.int k n).wf = true := by
  obtain ⟨n, y, h⟩ := hs i f hi
  rw [hc] at h
  obtain ⟨ys, m, -, -, -, hy, hel⟩ := DataW.trod_array ht h
  have h1 := hel j hj
  rw [hce, Nat.mul_one, List.getElem?_eq_getElem (show j < ys.length by omega), hd] at h1
  obtain ⟨z, h2, _, h3⟩ := DataW.trod_int he h1
  exact ⟨z, by simpa using h2, h3⟩
end
end Go.Proofs.YtlplpmkdebemnaaDoor.Fw
namespace Go.Proofs
open Go.Shelf
def Tryd.lays129_ren : Go.Shelf.Ren := ⟨fun | 129 => 54 | n => n, fun | 53 => 22 | 3 => 3 | 4 => 4 | 46 => 57 | 5 => 5 | 9 => 9 | n => n, fun | n => n⟩
theorem Tryd.lays129 : Go.Proofs.Lays.n129 Tryd.prog Tryd.lays129_ren := {
  mixed := by kernel_rfl
  f129 := Tryd.func54.trans (congrArg some (by kernel_rfl))
  t3 := Tryd.underlying3
  a3 := Tryd.isAgg3
  z3 := Tryd.sizeOf3
  v3 := Tryd.zeroValue3
  t4 := Tryd.underlying4
  a4 := Tryd.isAgg4
  z4 := Tryd.sizeOf4
  v4 := Tryd.zeroValue4
  t5 := Tryd.underlying5
  a5 := Tryd.isAgg5
  z5 := Tryd.sizeOf5
  v5 := Tryd.zeroValue5
  t9 := Tryd.underlying9
  a9 := Tryd.isAgg9
  z9 := Tryd.sizeOf9
  v9 := Tryd.zeroValue9
  t46 := Tryd.underlying57
  a46 := Tryd.isAgg57
  z46 := Tryd.sizeOf57
  v46 := Tryd.zeroValue57
  t53 := Tryd.underlying22
  a53 := Tryd.isAgg22
  z53 := Tryd.sizeOf22
  v53 := Tryd.zeroValue22 }
/-- bits.Len64: "Len64 returns the minimum number of bits required to represent x; the result is 0 for x == 0.": IT RETURNS 'Lib.bitLen x'; the world is as it was. ('h0', 'h1': x is a uint64.) (LAID: no walk: one application.) -/
theorem Tryd.bits_Len64 (x : Int) (w : World) (h0 : 0 ≤ x) (h1 : x ≤ 18446744073709551615) :
    Calls Tryd.prog 54 #[.int .u64 x] w fun e w' => e = .returned (.int .i64 (Lib.bitLen x.toNat)) ∧ w' = w := Any.bits_Len64 Tryd.lays129 x w h0 h1
def Tryd.lays317_ren : Go.Shelf.Ren := ⟨fun | 317 => 53 | n => n, fun | 3 => 3 | 46 => 57 | n => n, fun | n => n⟩
theorem Tryd.lays317 : Go.Proofs.Lays.n317 Tryd.prog Tryd.lays317_ren := {
  mixed := by kernel_rfl
  f317 := Tryd.func53.trans (congrArg some (by kernel_rfl))
  t3 := Tryd.underlying3
  a3 := Tryd.isAgg3
  z3 := Tryd.sizeOf3
  v3 := Tryd.zeroValue3
  t46 := Tryd.underlying57
  a46 := Tryd.isAgg57
  z46 := Tryd.sizeOf57
  v46 := Tryd.zeroValue57 }
open Go.Lib in
/-- internal/strconv.log10Pow2: "log10Pow2(x) returns ⌊log₁₀ 2**x⌋ = ⌊x * log₁₀ 2⌋.": '(x * 78913) >> 18', at an x up to 64 (a length in bits). The world is as it was. (LAID: no walk: one application.) -/
theorem Tryd.internal_strconv_log10Pow2 (x : Nat) (h : x ≤ 64) (w : World) :
    Calls Tryd.prog 53 #[.int .i64 x] w fun e w' => e = .returned (.int .i64 (Lib.l10 x)) ∧ w' = w := Any.internal_strconv_log10Pow2 Tryd.lays317 x h w
def Tryd.lays318_ren : Go.Shelf.Ren := ⟨fun | 318 => 55 | n => n, fun | 3 => 3 | 4 => 4 | n => n, fun | n => n⟩
theorem Tryd.lays318 : Go.Proofs.Lays.n318 Tryd.prog Tryd.lays318_ren := {
  mixed := by kernel_rfl
  f318 := Tryd.func55.trans (congrArg some (by kernel_rfl))
  t3 := Tryd.underlying3
  a3 := Tryd.isAgg3
  z3 := Tryd.sizeOf3
  v3 := Tryd.zeroValue3
  t4 := Tryd.underlying4
  a4 := Tryd.isAgg4
  z4 := Tryd.sizeOf4
  v4 := Tryd.zeroValue4 }
open Go.Lib in
/-- internal/strconv.bool2: "bool2 converts b to an integer: 1 for true, 0 for false." The world is as it was. (LAID: no walk: one application.) -/
theorem Tryd.internal_strconv_bool2_int (b : Bool) (w : World) :
    Calls Tryd.prog 55 #[.bool b] w fun e w' => e = .returned (.int .i64 (if b then 1 else 0)) ∧ w' = w := Any.internal_strconv_bool2_int Tryd.lays318 b w
def Tryd.lays283_ren : Go.Shelf.Ren := ⟨fun | 283 => 44 | n => n, fun | 3 => 3 | 9 => 9 | 4 => 4 | n => n, fun | n => n⟩
theorem Tryd.lays283 : Go.Proofs.Lays.n283 Tryd.prog Tryd.lays283_ren := {
  mixed := by kernel_rfl
  f283 := Tryd.func44.trans (congrArg some (by kernel_rfl))
  t3 := Tryd.underlying3
  a3 := Tryd.isAgg3
  z3 := Tryd.sizeOf3
  v3 := Tryd.zeroValue3
  t4 := Tryd.underlying4
  a4 := Tryd.isAgg4
  z4 := Tryd.sizeOf4
  v4 := Tryd.zeroValue4
  t9 := Tryd.underlying9
  a9 := Tryd.isAgg9
  z9 := Tryd.sizeOf9
  v9 := Tryd.zeroValue9 }
open Go.Lib in
/-- internal/strconv.small: "small returns the string for an i with 0 <= i < nSmalls.": i's decimal numeral. The world is as it was. (LAID: no walk: one application.) -/
theorem Tryd.internal_strconv_small (i : Nat) (h : i < 100) (w : World) :
    Calls Tryd.prog 44 #[.int .i64 i] w fun e w' => e = .returned (.string ⟨(Lib.decDigits i).toArray⟩) ∧ w' = w := Any.internal_strconv_small Tryd.lays283 i h w
def Tryd.laysM284_ren : Go.Shelf.Ren := ⟨fun | 284 => 45 | 129 => 54 | 317 => 53 | 318 => 55 | n => n, fun | 53 => 22 | 3 => 3 | 212 => 77 | 0 => 0 | 4 => 4 | 46 => 57 | 5 => 5 | 9 => 9 | n => n, fun | 17 => 0 | n => n⟩
theorem Tryd.laysM284 : Go.Proofs.LaysM.n284 Tryd.prog Tryd.laysM284_ren := {
  mixed := by kernel_rfl
  f129 := Tryd.func54.trans (congrArg some (by kernel_rfl))
  f284 := Tryd.func45.trans (congrArg some (by kernel_rfl))
  f317 := Tryd.func53.trans (congrArg some (by kernel_rfl))
  f318 := Tryd.func55.trans (congrArg some (by kernel_rfl))
  t0 := Tryd.underlying0
  a0 := Tryd.isAgg0
  z0 := Tryd.sizeOf0
  v0 := Tryd.zeroValue0
  t3 := Tryd.underlying3
  a3 := Tryd.isAgg3
  z3 := Tryd.sizeOf3
  v3 := Tryd.zeroValue3
  t4 := Tryd.underlying4
  a4 := Tryd.isAgg4
  z4 := Tryd.sizeOf4
  v4 := Tryd.zeroValue4
  t5 := Tryd.underlying5
  a5 := Tryd.isAgg5
  z5 := Tryd.sizeOf5
  v5 := Tryd.zeroValue5
  t9 := Tryd.underlying9
  a9 := Tryd.isAgg9
  z9 := Tryd.sizeOf9
  v9 := Tryd.zeroValue9
  t46 := Tryd.underlying57
  a46 := Tryd.isAgg57
  z46 := Tryd.sizeOf57
  v46 := Tryd.zeroValue57
  t53 := Tryd.underlying22
  a53 := Tryd.isAgg22
  z53 := Tryd.sizeOf22
  v53 := Tryd.zeroValue22
  t212 := Tryd.underlying77
  a212 := Tryd.isAgg77
  z212 := Tryd.sizeOf77
  v212 := Tryd.zeroValue77
  g17 := by kernel_rfl
  i0 := by kernel_rfl
  i3 := by kernel_rfl
  i4 := by kernel_rfl
  i5 := by kernel_rfl
  i9 := by kernel_rfl
  i46 := by kernel_rfl
  i53 := by kernel_rfl
  i212 := by kernel_rfl
  m17 := by kernel_rfl }
open Go.Lib in
/-- internal/strconv.numDigits, at a d that is not 0: THE NUMBER OF d's DECIMAL DIGITS. The world is as it was. (LAID: no walk: one application.) -/
theorem Tryd.internal_strconv_numDigits (u : Nat) (h1 : 1 ≤ u) (h2 : u < 18446744073709551616) (w : World) (htab : Lib.TabIs Tryd.prog w "internal/strconv.uint64pow10" .u64 Lib.pow10Tab) :
    Calls Tryd.prog 45 #[.int .u64 u] w fun e w' => e = .returned (.int .i64 (Lib.nDigits u)) ∧ w' = w := Any.internal_strconv_numDigits Tryd.laysM284 u h1 h2 w htab
def Tryd.lays285_ren : Go.Shelf.Ren := ⟨fun | 285 => 46 | n => n, fun | 37 => 29 | 53 => 22 | 3 => 3 | 4 => 4 | 51 => 25 | 9 => 9 | 5 => 5 | 0 => 0 | n => n, fun | n => n⟩
theorem Tryd.lays285 : Go.Proofs.Lays.n285 Tryd.prog Tryd.lays285_ren := {
  mixed := by kernel_rfl
  f285 := Tryd.func46.trans (congrArg some (by kernel_rfl))
  t0 := Tryd.underlying0
  a0 := Tryd.isAgg0
  z0 := Tryd.sizeOf0
  v0 := Tryd.zeroValue0
  t3 := Tryd.underlying3
  a3 := Tryd.isAgg3
  z3 := Tryd.sizeOf3
  v3 := Tryd.zeroValue3
  t4 := Tryd.underlying4
  a4 := Tryd.isAgg4
  z4 := Tryd.sizeOf4
  v4 := Tryd.zeroValue4
  t5 := Tryd.underlying5
  a5 := Tryd.isAgg5
  z5 := Tryd.sizeOf5
  v5 := Tryd.zeroValue5
  t9 := Tryd.underlying9
  a9 := Tryd.isAgg9
  z9 := Tryd.sizeOf9
  v9 := Tryd.zeroValue9
  t37 := Tryd.underlying29
  a37 := Tryd.isAgg29
  z37 := Tryd.sizeOf29
  v37 := Tryd.zeroValue29
  t51 := Tryd.underlying25
  a51 := Tryd.isAgg25
  z51 := Tryd.sizeOf25
  v51 := Tryd.zeroValue25
  t53 := Tryd.underlying22
  a53 := Tryd.isAgg22
  z53 := Tryd.sizeOf22
  v53 := Tryd.zeroValue22 }
open Go.RowKit Go.Sort Go.Lib in
/-- internal/strconv.formatBase10: "formatBase10 formats the decimal representation of u into a. The caller is responsible for ensuring that a is big enough to hold u. If a is too big, leading zeros will be filled in as needed.": THE ROW HOLDS u's DIGITS ('FmtInv .. 0 ..': every place t holds 'dg u (len - 1 - t)'); all else is as it was but for the count of draws. (LAID: no walk: one application.) -/
theorem Tryd.internal_strconv_formatBase10 (blk off cap : Nat) (u : Nat) (d : Array UInt8) (w : World) (hH : Holds (fun (b : UInt8) => Value.int .u8 (b.toNat : Int)) w blk off d) (hu : u < 10 ^ d.size) (hu64 : u < 18446744073709551616) (hsz : d.size < 4611686018427387904) :
    Calls Tryd.prog 46 #[.slice (some ⟨blk, off, none⟩) d.size cap, .int .u64 u] w fun e w' =>
      e = .returned (.tuple #[]) ∧ ∃ (n v' : Nat) (dk : Array UInt8), w' = (putRow (fun (b : UInt8) => Value.int .u8 (b.toNat : Int)) w blk off dk).drewN n ∧ FmtInv d.size u 0 v' dk := Any.internal_strconv_formatBase10 Tryd.lays285 blk off cap u d w hH hu hu64 hsz
def Tryd.laysM246_ren : Go.Shelf.Ren := ⟨fun | 246 => 48 | 283 => 44 | 284 => 45 | 285 => 46 | 286 => 47 | 129 => 54 | 317 => 53 | 318 => 55 | 319 => 56 | 320 => 57 | 337 => 65 | 338 => 66 | n => n, fun | 2 => 2 | 3 => 3 | 9 => 9 | 4 => 4 | 171 => 65 | 0 => 0 | 53 => 22 | 37 => 29 | 5 => 5 | 173 => 68 | 212 => 77 | 51 => 25 | 20 => 20 | 213 => 78 | 46 => 57 | 232 => 34 | 233 => 95 | n => n, fun | 17 => 0 | 18 => 1 | 19 => 2 | n => n⟩
theorem Tryd.laysM246 : Go.Proofs.LaysM.n246 Tryd.prog Tryd.laysM246_ren := {
  mixed := by kernel_rfl
  f129 := Tryd.func54.trans (congrArg some (by kernel_rfl))
  f246 := Tryd.func48.trans (congrArg some (by kernel_rfl))
  f283 := Tryd.func44.trans (congrArg some (by kernel_rfl))
  f284 := Tryd.func45.trans (congrArg some (by kernel_rfl))
  f285 := Tryd.func46.trans (congrArg some (by kernel_rfl))
  f286 := Tryd.func47.trans (congrArg some (by kernel_rfl))
  f317 := Tryd.func53.trans (congrArg some (by kernel_rfl))
  f318 := Tryd.func55.trans (congrArg some (by kernel_rfl))
  f319 := Tryd.func56.trans (congrArg some (by kernel_rfl))
  f320 := Tryd.func57.trans (congrArg some (by kernel_rfl))
  f337 := Tryd.func65.trans (congrArg some (by kernel_rfl))
  f338 := Tryd.func66.trans (congrArg some (by kernel_rfl))
  t0 := Tryd.underlying0
  a0 := Tryd.isAgg0
  z0 := Tryd.sizeOf0
  v0 := Tryd.zeroValue0
  t2 := Tryd.underlying2
  a2 := Tryd.isAgg2
  z2 := Tryd.sizeOf2
  v2 := Tryd.zeroValue2
  t3 := Tryd.underlying3
  a3 := Tryd.isAgg3
  z3 := Tryd.sizeOf3
  v3 := Tryd.zeroValue3
  t4 := Tryd.underlying4
  a4 := Tryd.isAgg4
  z4 := Tryd.sizeOf4
  v4 := Tryd.zeroValue4
  t5 := Tryd.underlying5
  a5 := Tryd.isAgg5
  z5 := Tryd.sizeOf5
  v5 := Tryd.zeroValue5
  t9 := Tryd.underlying9
  a9 := Tryd.isAgg9
  z9 := Tryd.sizeOf9
  v9 := Tryd.zeroValue9
  t20 := Tryd.underlying20
  a20 := Tryd.isAgg20
  z20 := Tryd.sizeOf20
  v20 := Tryd.zeroValue20
  t37 := Tryd.underlying29
  a37 := Tryd.isAgg29
  z37 := Tryd.sizeOf29
  v37 := Tryd.zeroValue29
  t46 := Tryd.underlying57
  a46 := Tryd.isAgg57
  z46 := Tryd.sizeOf57
  v46 := Tryd.zeroValue57
  t51 := Tryd.underlying25
  a51 := Tryd.isAgg25
  z51 := Tryd.sizeOf25
  v51 := Tryd.zeroValue25
  t53 := Tryd.underlying22
  a53 := Tryd.isAgg22
  z53 := Tryd.sizeOf22
  v53 := Tryd.zeroValue22
  t171 := Tryd.underlying65
  a171 := Tryd.isAgg65
  z171 := Tryd.sizeOf65
  v171 := Tryd.zeroValue65
  t173 := Tryd.underlying68
  a173 := Tryd.isAgg68
  z173 := Tryd.sizeOf68
  v173 := Tryd.zeroValue68
  t212 := Tryd.underlying77
  a212 := Tryd.isAgg77
  z212 := Tryd.sizeOf77
  v212 := Tryd.zeroValue77
  t213 := Tryd.underlying78
  a213 := Tryd.isAgg78
  z213 := Tryd.sizeOf78
  t232 := Tryd.underlying34
  a232 := Tryd.isAgg34
  z232 := Tryd.sizeOf34
  v232 := Tryd.zeroValue34
  t233 := Tryd.underlying95
  a233 := Tryd.isAgg95
  z233 := Tryd.sizeOf95
  v233 := Tryd.zeroValue95
  g17 := by kernel_rfl
  g18 := by kernel_rfl
  g19 := by kernel_rfl
  i0 := by kernel_rfl
  i2 := by kernel_rfl
  i3 := by kernel_rfl
  i4 := by kernel_rfl
  i5 := by kernel_rfl
  i9 := by kernel_rfl
  i20 := by kernel_rfl
  i37 := by kernel_rfl
  i46 := by kernel_rfl
  i51 := by kernel_rfl
  i53 := by kernel_rfl
  i171 := by kernel_rfl
  i173 := by kernel_rfl
  i212 := by kernel_rfl
  i232 := by kernel_rfl
  i233 := by kernel_rfl
  m17 := by kernel_rfl
  m18 := by kernel_rfl
  m19 := by kernel_rfl }
open Go.RowKit Go.Sort Go.Lib in
/-- internal/strconv.FormatInt: "FormatInt returns the string representation of i in the given base": AT BASE 10: i's decimal numeral, for every int64. The world behind the call: the world before it, new blocks behind the heap, draws. (LAID: no walk: one application.) -/
theorem Tryd.internal_strconv_FormatInt_10 (n : Int) (h0 : -9223372036854775808 ≤ n) (h1 : n ≤ 9223372036854775807) (w : World) (htab : Lib.TabIs Tryd.prog w "internal/strconv.uint64pow10" .u64 Lib.pow10Tab) :
    Calls Tryd.prog 48 #[.int .i64 n, .int .i64 10] w fun e w' => e = .returned (.string ⟨(Lib.itoa n).toArray⟩) ∧ ∃ k os, w' = grow (w.drewN k) os := Any.internal_strconv_FormatInt_10 Tryd.laysM246 n h0 h1 w htab
def Tryd.lays246_ren : Go.Shelf.Ren := ⟨fun | 246 => 48 | 283 => 44 | 284 => 45 | 285 => 46 | 286 => 47 | 129 => 54 | 317 => 53 | 318 => 55 | 319 => 56 | 320 => 57 | 337 => 65 | 338 => 66 | n => n, fun | 2 => 2 | 3 => 3 | 9 => 9 | 4 => 4 | 171 => 65 | 0 => 0 | 53 => 22 | 37 => 29 | 5 => 5 | 173 => 68 | 212 => 77 | 51 => 25 | 20 => 20 | 213 => 78 | 46 => 57 | 232 => 34 | 233 => 95 | n => n, fun | 17 => 0 | 18 => 1 | 19 => 2 | n => n⟩
theorem Tryd.lays246 : Go.Proofs.Lays.n246 Tryd.prog Tryd.lays246_ren := {
  mixed := by kernel_rfl
  f129 := Tryd.func54.trans (congrArg some (by kernel_rfl))
  f246 := Tryd.func48.trans (congrArg some (by kernel_rfl))
  f283 := Tryd.func44.trans (congrArg some (by kernel_rfl))
  f284 := Tryd.func45.trans (congrArg some (by kernel_rfl))
  f285 := Tryd.func46.trans (congrArg some (by kernel_rfl))
  f286 := Tryd.func47.trans (congrArg some (by kernel_rfl))
  f317 := Tryd.func53.trans (congrArg some (by kernel_rfl))
  f318 := Tryd.func55.trans (congrArg some (by kernel_rfl))
  f319 := Tryd.func56.trans (congrArg some (by kernel_rfl))
  f320 := Tryd.func57.trans (congrArg some (by kernel_rfl))
  f337 := Tryd.func65.trans (congrArg some (by kernel_rfl))
  f338 := Tryd.func66.trans (congrArg some (by kernel_rfl))
  t0 := Tryd.underlying0
  a0 := Tryd.isAgg0
  z0 := Tryd.sizeOf0
  v0 := Tryd.zeroValue0
  t2 := Tryd.underlying2
  a2 := Tryd.isAgg2
  z2 := Tryd.sizeOf2
  v2 := Tryd.zeroValue2
  t3 := Tryd.underlying3
  a3 := Tryd.isAgg3
  z3 := Tryd.sizeOf3
  v3 := Tryd.zeroValue3
  t4 := Tryd.underlying4
  a4 := Tryd.isAgg4
  z4 := Tryd.sizeOf4
  v4 := Tryd.zeroValue4
  t5 := Tryd.underlying5
  a5 := Tryd.isAgg5
  z5 := Tryd.sizeOf5
  v5 := Tryd.zeroValue5
  t9 := Tryd.underlying9
  a9 := Tryd.isAgg9
  z9 := Tryd.sizeOf9
  v9 := Tryd.zeroValue9
  t20 := Tryd.underlying20
  a20 := Tryd.isAgg20
  z20 := Tryd.sizeOf20
  v20 := Tryd.zeroValue20
  t37 := Tryd.underlying29
  a37 := Tryd.isAgg29
  z37 := Tryd.sizeOf29
  v37 := Tryd.zeroValue29
  t46 := Tryd.underlying57
  a46 := Tryd.isAgg57
  z46 := Tryd.sizeOf57
  v46 := Tryd.zeroValue57
  t51 := Tryd.underlying25
  a51 := Tryd.isAgg25
  z51 := Tryd.sizeOf25
  v51 := Tryd.zeroValue25
  t53 := Tryd.underlying22
  a53 := Tryd.isAgg22
  z53 := Tryd.sizeOf22
  v53 := Tryd.zeroValue22
  t171 := Tryd.underlying65
  a171 := Tryd.isAgg65
  z171 := Tryd.sizeOf65
  v171 := Tryd.zeroValue65
  t173 := Tryd.underlying68
  a173 := Tryd.isAgg68
  z173 := Tryd.sizeOf68
  v173 := Tryd.zeroValue68
  t212 := Tryd.underlying77
  a212 := Tryd.isAgg77
  z212 := Tryd.sizeOf77
  v212 := Tryd.zeroValue77
  t213 := Tryd.underlying78
  a213 := Tryd.isAgg78
  z213 := Tryd.sizeOf78
  t232 := Tryd.underlying34
  a232 := Tryd.isAgg34
  z232 := Tryd.sizeOf34
  v232 := Tryd.zeroValue34
  t233 := Tryd.underlying95
  a233 := Tryd.isAgg95
  z233 := Tryd.sizeOf95
  v233 := Tryd.zeroValue95
  g17 := by kernel_rfl
  g18 := by kernel_rfl
  g19 := by kernel_rfl }
open Go.RowKit Go.Sort Go.Lib in
/-- THE ROAD WITHOUT THE TABLE: 0 <= i < 100: two constants are read, nothing is laid: no premise on the world, and the world is as it was. (LAID: no walk: one application.) -/
theorem Tryd.internal_strconv_FormatInt_10_small (i : Nat) (hi : i < 100) (w : World) :
    Calls Tryd.prog 48 #[.int .i64 i, .int .i64 10] w fun e w' => e = .returned (.string ⟨(Lib.decDigits i).toArray⟩) ∧ w' = w := Any.internal_strconv_FormatInt_10_small Tryd.lays246 i hi w
def Tryd.laysM243_ren : Go.Shelf.Ren := ⟨fun | 243 => 38 | 246 => 48 | 283 => 44 | 284 => 45 | 285 => 46 | 286 => 47 | 129 => 54 | 317 => 53 | 318 => 55 | 319 => 56 | 320 => 57 | 337 => 65 | 338 => 66 | n => n, fun | 3 => 3 | 9 => 9 | 2 => 2 | 4 => 4 | 171 => 65 | 0 => 0 | 53 => 22 | 37 => 29 | 5 => 5 | 173 => 68 | 212 => 77 | 51 => 25 | 20 => 20 | 213 => 78 | 46 => 57 | 232 => 34 | 233 => 95 | n => n, fun | 17 => 0 | 18 => 1 | 19 => 2 | n => n⟩
theorem Tryd.laysM243 : Go.Proofs.LaysM.n243 Tryd.prog Tryd.laysM243_ren := {
  mixed := by kernel_rfl
  f129 := Tryd.func54.trans (congrArg some (by kernel_rfl))
  f243 := Tryd.func38.trans (congrArg some (by kernel_rfl))
  f246 := Tryd.func48.trans (congrArg some (by kernel_rfl))
  f283 := Tryd.func44.trans (congrArg some (by kernel_rfl))
  f284 := Tryd.func45.trans (congrArg some (by kernel_rfl))
  f285 := Tryd.func46.trans (congrArg some (by kernel_rfl))
  f286 := Tryd.func47.trans (congrArg some (by kernel_rfl))
  f317 := Tryd.func53.trans (congrArg some (by kernel_rfl))
  f318 := Tryd.func55.trans (congrArg some (by kernel_rfl))
  f319 := Tryd.func56.trans (congrArg some (by kernel_rfl))
  f320 := Tryd.func57.trans (congrArg some (by kernel_rfl))
  f337 := Tryd.func65.trans (congrArg some (by kernel_rfl))
  f338 := Tryd.func66.trans (congrArg some (by kernel_rfl))
  t0 := Tryd.underlying0
  a0 := Tryd.isAgg0
  z0 := Tryd.sizeOf0
  v0 := Tryd.zeroValue0
  t2 := Tryd.underlying2
  a2 := Tryd.isAgg2
  z2 := Tryd.sizeOf2
  v2 := Tryd.zeroValue2
  t3 := Tryd.underlying3
  a3 := Tryd.isAgg3
  z3 := Tryd.sizeOf3
  v3 := Tryd.zeroValue3
  t4 := Tryd.underlying4
  a4 := Tryd.isAgg4
  z4 := Tryd.sizeOf4
  v4 := Tryd.zeroValue4
  t5 := Tryd.underlying5
  a5 := Tryd.isAgg5
  z5 := Tryd.sizeOf5
  v5 := Tryd.zeroValue5
  t9 := Tryd.underlying9
  a9 := Tryd.isAgg9
  z9 := Tryd.sizeOf9
  v9 := Tryd.zeroValue9
  t20 := Tryd.underlying20
  a20 := Tryd.isAgg20
  z20 := Tryd.sizeOf20
  v20 := Tryd.zeroValue20
  t37 := Tryd.underlying29
  a37 := Tryd.isAgg29
  z37 := Tryd.sizeOf29
  v37 := Tryd.zeroValue29
  t46 := Tryd.underlying57
  a46 := Tryd.isAgg57
  z46 := Tryd.sizeOf57
  v46 := Tryd.zeroValue57
  t51 := Tryd.underlying25
  a51 := Tryd.isAgg25
  z51 := Tryd.sizeOf25
  v51 := Tryd.zeroValue25
  t53 := Tryd.underlying22
  a53 := Tryd.isAgg22
  z53 := Tryd.sizeOf22
  v53 := Tryd.zeroValue22
  t171 := Tryd.underlying65
  a171 := Tryd.isAgg65
  z171 := Tryd.sizeOf65
  v171 := Tryd.zeroValue65
  t173 := Tryd.underlying68
  a173 := Tryd.isAgg68
  z173 := Tryd.sizeOf68
  v173 := Tryd.zeroValue68
  t212 := Tryd.underlying77
  a212 := Tryd.isAgg77
  z212 := Tryd.sizeOf77
  v212 := Tryd.zeroValue77
  t213 := Tryd.underlying78
  a213 := Tryd.isAgg78
  z213 := Tryd.sizeOf78
  t232 := Tryd.underlying34
  a232 := Tryd.isAgg34
  z232 := Tryd.sizeOf34
  v232 := Tryd.zeroValue34
  t233 := Tryd.underlying95
  a233 := Tryd.isAgg95
  z233 := Tryd.sizeOf95
  v233 := Tryd.zeroValue95
  g17 := by kernel_rfl
  g18 := by kernel_rfl
  g19 := by kernel_rfl
  i0 := by kernel_rfl
  i2 := by kernel_rfl
  i3 := by kernel_rfl
  i4 := by kernel_rfl
  i5 := by kernel_rfl
  i9 := by kernel_rfl
  i20 := by kernel_rfl
  i37 := by kernel_rfl
  i46 := by kernel_rfl
  i51 := by kernel_rfl
  i53 := by kernel_rfl
  i171 := by kernel_rfl
  i173 := by kernel_rfl
  i212 := by kernel_rfl
  i232 := by kernel_rfl
  i233 := by kernel_rfl
  m17 := by kernel_rfl
  m18 := by kernel_rfl
  m19 := by kernel_rfl }
open Go.RowKit Go.Sort Go.Lib in
/-- internal/strconv.Itoa: "Itoa is equivalent to FormatInt(int64(i), 10).": i's decimal numeral, for every int. (LAID: no walk: one application.) -/
theorem Tryd.internal_strconv_Itoa (n : Int) (h0 : -9223372036854775808 ≤ n) (h1 : n ≤ 9223372036854775807) (w : World) (htab : Lib.TabIs Tryd.prog w "internal/strconv.uint64pow10" .u64 Lib.pow10Tab) :
    Calls Tryd.prog 38 #[.int .i64 n] w fun e w' => e = .returned (.string ⟨(Lib.itoa n).toArray⟩) ∧ ∃ k os, w' = grow (w.drewN k) os := Any.internal_strconv_Itoa Tryd.laysM243 n h0 h1 w htab
def Tryd.lays243_ren : Go.Shelf.Ren := ⟨fun | 243 => 38 | 246 => 48 | 283 => 44 | 284 => 45 | 285 => 46 | 286 => 47 | 129 => 54 | 317 => 53 | 318 => 55 | 319 => 56 | 320 => 57 | 337 => 65 | 338 => 66 | n => n, fun | 3 => 3 | 9 => 9 | 2 => 2 | 4 => 4 | 171 => 65 | 0 => 0 | 53 => 22 | 37 => 29 | 5 => 5 | 173 => 68 | 212 => 77 | 51 => 25 | 20 => 20 | 213 => 78 | 46 => 57 | 232 => 34 | 233 => 95 | n => n, fun | 17 => 0 | 18 => 1 | 19 => 2 | n => n⟩
theorem Tryd.lays243 : Go.Proofs.Lays.n243 Tryd.prog Tryd.lays243_ren := {
  mixed := by kernel_rfl
  f129 := Tryd.func54.trans (congrArg some (by kernel_rfl))
  f243 := Tryd.func38.trans (congrArg some (by kernel_rfl))
  f246 := Tryd.func48.trans (congrArg some (by kernel_rfl))
  f283 := Tryd.func44.trans (congrArg some (by kernel_rfl))
  f284 := Tryd.func45.trans (congrArg some (by kernel_rfl))
  f285 := Tryd.func46.trans (congrArg some (by kernel_rfl))
  f286 := Tryd.func47.trans (congrArg some (by kernel_rfl))
  f317 := Tryd.func53.trans (congrArg some (by kernel_rfl))
  f318 := Tryd.func55.trans (congrArg some (by kernel_rfl))
  f319 := Tryd.func56.trans (congrArg some (by kernel_rfl))
  f320 := Tryd.func57.trans (congrArg some (by kernel_rfl))
  f337 := Tryd.func65.trans (congrArg some (by kernel_rfl))
  f338 := Tryd.func66.trans (congrArg some (by kernel_rfl))
  t0 := Tryd.underlying0
  a0 := Tryd.isAgg0
  z0 := Tryd.sizeOf0
  v0 := Tryd.zeroValue0
  t2 := Tryd.underlying2
  a2 := Tryd.isAgg2
  z2 := Tryd.sizeOf2
  v2 := Tryd.zeroValue2
  t3 := Tryd.underlying3
  a3 := Tryd.isAgg3
  z3 := Tryd.sizeOf3
  v3 := Tryd.zeroValue3
  t4 := Tryd.underlying4
  a4 := Tryd.isAgg4
  z4 := Tryd.sizeOf4
  v4 := Tryd.zeroValue4
  t5 := Tryd.underlying5
  a5 := Tryd.isAgg5
  z5 := Tryd.sizeOf5
  v5 := Tryd.zeroValue5
  t9 := Tryd.underlying9
  a9 := Tryd.isAgg9
  z9 := Tryd.sizeOf9
  v9 := Tryd.zeroValue9
  t20 := Tryd.underlying20
  a20 := Tryd.isAgg20
  z20 := Tryd.sizeOf20
  v20 := Tryd.zeroValue20
  t37 := Tryd.underlying29
  a37 := Tryd.isAgg29
  z37 := Tryd.sizeOf29
  v37 := Tryd.zeroValue29
  t46 := Tryd.underlying57
  a46 := Tryd.isAgg57
  z46 := Tryd.sizeOf57
  v46 := Tryd.zeroValue57
  t51 := Tryd.underlying25
  a51 := Tryd.isAgg25
  z51 := Tryd.sizeOf25
  v51 := Tryd.zeroValue25
  t53 := Tryd.underlying22
  a53 := Tryd.isAgg22
  z53 := Tryd.sizeOf22
  v53 := Tryd.zeroValue22
  t171 := Tryd.underlying65
  a171 := Tryd.isAgg65
  z171 := Tryd.sizeOf65
  v171 := Tryd.zeroValue65
  t173 := Tryd.underlying68
  a173 := Tryd.isAgg68
  z173 := Tryd.sizeOf68
  v173 := Tryd.zeroValue68
  t212 := Tryd.underlying77
  a212 := Tryd.isAgg77
  z212 := Tryd.sizeOf77
  v212 := Tryd.zeroValue77
  t213 := Tryd.underlying78
  a213 := Tryd.isAgg78
  z213 := Tryd.sizeOf78
  t232 := Tryd.underlying34
  a232 := Tryd.isAgg34
  z232 := Tryd.sizeOf34
  v232 := Tryd.zeroValue34
  t233 := Tryd.underlying95
  a233 := Tryd.isAgg95
  z233 := Tryd.sizeOf95
  v233 := Tryd.zeroValue95
  g17 := by kernel_rfl
  g18 := by kernel_rfl
  g19 := by kernel_rfl }
open Go.RowKit Go.Sort Go.Lib in
/-- THE ROAD WITHOUT THE TABLE: 0 <= i < 100. (LAID: no walk: one application.) -/
theorem Tryd.internal_strconv_Itoa_small (i : Nat) (hi : i < 100) (w : World) :
    Calls Tryd.prog 38 #[.int .i64 i] w fun e w' => e = .returned (.string ⟨(Lib.decDigits i).toArray⟩) ∧ w' = w := Any.internal_strconv_Itoa_small Tryd.lays243 i hi w
def Tryd.laysM171_ren : Go.Shelf.Ren := ⟨fun | 171 => 26 | 243 => 38 | 246 => 48 | 283 => 44 | 284 => 45 | 285 => 46 | 286 => 47 | 129 => 54 | 317 => 53 | 318 => 55 | 319 => 56 | 320 => 57 | 337 => 65 | 338 => 66 | n => n, fun | 3 => 3 | 9 => 9 | 2 => 2 | 4 => 4 | 171 => 65 | 0 => 0 | 53 => 22 | 37 => 29 | 5 => 5 | 173 => 68 | 212 => 77 | 51 => 25 | 20 => 20 | 213 => 78 | 46 => 57 | 232 => 34 | 233 => 95 | n => n, fun | 17 => 0 | 18 => 1 | 19 => 2 | n => n⟩
theorem Tryd.laysM171 : Go.Proofs.LaysM.n171 Tryd.prog Tryd.laysM171_ren := {
  mixed := by kernel_rfl
  f129 := Tryd.func54.trans (congrArg some (by kernel_rfl))
  f171 := Tryd.func26.trans (congrArg some (by kernel_rfl))
  f243 := Tryd.func38.trans (congrArg some (by kernel_rfl))
  f246 := Tryd.func48.trans (congrArg some (by kernel_rfl))
  f283 := Tryd.func44.trans (congrArg some (by kernel_rfl))
  f284 := Tryd.func45.trans (congrArg some (by kernel_rfl))
  f285 := Tryd.func46.trans (congrArg some (by kernel_rfl))
  f286 := Tryd.func47.trans (congrArg some (by kernel_rfl))
  f317 := Tryd.func53.trans (congrArg some (by kernel_rfl))
  f318 := Tryd.func55.trans (congrArg some (by kernel_rfl))
  f319 := Tryd.func56.trans (congrArg some (by kernel_rfl))
  f320 := Tryd.func57.trans (congrArg some (by kernel_rfl))
  f337 := Tryd.func65.trans (congrArg some (by kernel_rfl))
  f338 := Tryd.func66.trans (congrArg some (by kernel_rfl))
  t0 := Tryd.underlying0
  a0 := Tryd.isAgg0
  z0 := Tryd.sizeOf0
  v0 := Tryd.zeroValue0
  t2 := Tryd.underlying2
  a2 := Tryd.isAgg2
  z2 := Tryd.sizeOf2
  v2 := Tryd.zeroValue2
  t3 := Tryd.underlying3
  a3 := Tryd.isAgg3
  z3 := Tryd.sizeOf3
  v3 := Tryd.zeroValue3
  t4 := Tryd.underlying4
  a4 := Tryd.isAgg4
  z4 := Tryd.sizeOf4
  v4 := Tryd.zeroValue4
  t5 := Tryd.underlying5
  a5 := Tryd.isAgg5
  z5 := Tryd.sizeOf5
  v5 := Tryd.zeroValue5
  t9 := Tryd.underlying9
  a9 := Tryd.isAgg9
  z9 := Tryd.sizeOf9
  v9 := Tryd.zeroValue9
  t20 := Tryd.underlying20
  a20 := Tryd.isAgg20
  z20 := Tryd.sizeOf20
  v20 := Tryd.zeroValue20
  t37 := Tryd.underlying29
  a37 := Tryd.isAgg29
  z37 := Tryd.sizeOf29
  v37 := Tryd.zeroValue29
  t46 := Tryd.underlying57
  a46 := Tryd.isAgg57
  z46 := Tryd.sizeOf57
  v46 := Tryd.zeroValue57
  t51 := Tryd.underlying25
  a51 := Tryd.isAgg25
  z51 := Tryd.sizeOf25
  v51 := Tryd.zeroValue25
  t53 := Tryd.underlying22
  a53 := Tryd.isAgg22
  z53 := Tryd.sizeOf22
  v53 := Tryd.zeroValue22
  t171 := Tryd.underlying65
  a171 := Tryd.isAgg65
  z171 := Tryd.sizeOf65
  v171 := Tryd.zeroValue65
  t173 := Tryd.underlying68
  a173 := Tryd.isAgg68
  z173 := Tryd.sizeOf68
  v173 := Tryd.zeroValue68
  t212 := Tryd.underlying77
  a212 := Tryd.isAgg77
  z212 := Tryd.sizeOf77
  v212 := Tryd.zeroValue77
  t213 := Tryd.underlying78
  a213 := Tryd.isAgg78
  z213 := Tryd.sizeOf78
  t232 := Tryd.underlying34
  a232 := Tryd.isAgg34
  z232 := Tryd.sizeOf34
  v232 := Tryd.zeroValue34
  t233 := Tryd.underlying95
  a233 := Tryd.isAgg95
  z233 := Tryd.sizeOf95
  v233 := Tryd.zeroValue95
  g17 := by kernel_rfl
  g18 := by kernel_rfl
  g19 := by kernel_rfl
  i0 := by kernel_rfl
  i2 := by kernel_rfl
  i3 := by kernel_rfl
  i4 := by kernel_rfl
  i5 := by kernel_rfl
  i9 := by kernel_rfl
  i20 := by kernel_rfl
  i37 := by kernel_rfl
  i46 := by kernel_rfl
  i51 := by kernel_rfl
  i53 := by kernel_rfl
  i171 := by kernel_rfl
  i173 := by kernel_rfl
  i212 := by kernel_rfl
  i232 := by kernel_rfl
  i233 := by kernel_rfl
  m17 := by kernel_rfl
  m18 := by kernel_rfl
  m19 := by kernel_rfl }
open Go.RowKit Go.Sort Go.Lib in
/-- strconv.Itoa: "Itoa is equivalent to FormatInt(int64(i), 10).": i's DECIMAL NUMERAL ('Lib.itoa': a '-' where i is negative, then the digits), FOR EVERY int. The world behind the call: the world before it, new blocks behind the heap (the library's 'var a [24]byte'), draws. (LAID: no walk: one application.) -/
theorem Tryd.strconv_Itoa (n : Int) (h0 : -9223372036854775808 ≤ n) (h1 : n ≤ 9223372036854775807) (w : World) (htab : Lib.TabIs Tryd.prog w "internal/strconv.uint64pow10" .u64 Lib.pow10Tab) :
    Calls Tryd.prog 26 #[.int .i64 n] w fun e w' => e = .returned (.string ⟨(Lib.itoa n).toArray⟩) ∧ ∃ k os, w' = grow (w.drewN k) os := Any.strconv_Itoa Tryd.laysM171 n h0 h1 w htab
def Tryd.lays171_ren : Go.Shelf.Ren := ⟨fun | 171 => 26 | 243 => 38 | 246 => 48 | 283 => 44 | 284 => 45 | 285 => 46 | 286 => 47 | 129 => 54 | 317 => 53 | 318 => 55 | 319 => 56 | 320 => 57 | 337 => 65 | 338 => 66 | n => n, fun | 3 => 3 | 9 => 9 | 2 => 2 | 4 => 4 | 171 => 65 | 0 => 0 | 53 => 22 | 37 => 29 | 5 => 5 | 173 => 68 | 212 => 77 | 51 => 25 | 20 => 20 | 213 => 78 | 46 => 57 | 232 => 34 | 233 => 95 | n => n, fun | 17 => 0 | 18 => 1 | 19 => 2 | n => n⟩
theorem Tryd.lays171 : Go.Proofs.Lays.n171 Tryd.prog Tryd.lays171_ren := {
  mixed := by kernel_rfl
  f129 := Tryd.func54.trans (congrArg some (by kernel_rfl))
  f171 := Tryd.func26.trans (congrArg some (by kernel_rfl))
  f243 := Tryd.func38.trans (congrArg some (by kernel_rfl))
  f246 := Tryd.func48.trans (congrArg some (by kernel_rfl))
  f283 := Tryd.func44.trans (congrArg some (by kernel_rfl))
  f284 := Tryd.func45.trans (congrArg some (by kernel_rfl))
  f285 := Tryd.func46.trans (congrArg some (by kernel_rfl))
  f286 := Tryd.func47.trans (congrArg some (by kernel_rfl))
  f317 := Tryd.func53.trans (congrArg some (by kernel_rfl))
  f318 := Tryd.func55.trans (congrArg some (by kernel_rfl))
  f319 := Tryd.func56.trans (congrArg some (by kernel_rfl))
  f320 := Tryd.func57.trans (congrArg some (by kernel_rfl))
  f337 := Tryd.func65.trans (congrArg some (by kernel_rfl))
  f338 := Tryd.func66.trans (congrArg some (by kernel_rfl))
  t0 := Tryd.underlying0
  a0 := Tryd.isAgg0
  z0 := Tryd.sizeOf0
  v0 := Tryd.zeroValue0
  t2 := Tryd.underlying2
  a2 := Tryd.isAgg2
  z2 := Tryd.sizeOf2
  v2 := Tryd.zeroValue2
  t3 := Tryd.underlying3
  a3 := Tryd.isAgg3
  z3 := Tryd.sizeOf3
  v3 := Tryd.zeroValue3
  t4 := Tryd.underlying4
  a4 := Tryd.isAgg4
  z4 := Tryd.sizeOf4
  v4 := Tryd.zeroValue4
  t5 := Tryd.underlying5
  a5 := Tryd.isAgg5
  z5 := Tryd.sizeOf5
  v5 := Tryd.zeroValue5
  t9 := Tryd.underlying9
  a9 := Tryd.isAgg9
  z9 := Tryd.sizeOf9
  v9 := Tryd.zeroValue9
  t20 := Tryd.underlying20
  a20 := Tryd.isAgg20
  z20 := Tryd.sizeOf20
  v20 := Tryd.zeroValue20
  t37 := Tryd.underlying29
  a37 := Tryd.isAgg29
  z37 := Tryd.sizeOf29
  v37 := Tryd.zeroValue29
  t46 := Tryd.underlying57
  a46 := Tryd.isAgg57
  z46 := Tryd.sizeOf57
  v46 := Tryd.zeroValue57
  t51 := Tryd.underlying25
  a51 := Tryd.isAgg25
  z51 := Tryd.sizeOf25
  v51 := Tryd.zeroValue25
  t53 := Tryd.underlying22
  a53 := Tryd.isAgg22
  z53 := Tryd.sizeOf22
  v53 := Tryd.zeroValue22
  t171 := Tryd.underlying65
  a171 := Tryd.isAgg65
  z171 := Tryd.sizeOf65
  v171 := Tryd.zeroValue65
  t173 := Tryd.underlying68
  a173 := Tryd.isAgg68
  z173 := Tryd.sizeOf68
  v173 := Tryd.zeroValue68
  t212 := Tryd.underlying77
  a212 := Tryd.isAgg77
  z212 := Tryd.sizeOf77
  v212 := Tryd.zeroValue77
  t213 := Tryd.underlying78
  a213 := Tryd.isAgg78
  z213 := Tryd.sizeOf78
  t232 := Tryd.underlying34
  a232 := Tryd.isAgg34
  z232 := Tryd.sizeOf34
  v232 := Tryd.zeroValue34
  t233 := Tryd.underlying95
  a233 := Tryd.isAgg95
  z233 := Tryd.sizeOf95
  v233 := Tryd.zeroValue95
  g17 := by kernel_rfl
  g18 := by kernel_rfl
  g19 := by kernel_rfl }
open Go.RowKit Go.Sort Go.Lib in
/-- THE ROAD WITHOUT THE TABLE: 0 <= i < 100: NO PREMISE ON THE WORLD, AND THE WORLD IS AS IT WAS: a row that keeps its argument in that range need list no table ('laid = []'). (LAID: no walk: one application.) -/
theorem Tryd.strconv_Itoa_small (i : Nat) (hi : i < 100) (w : World) :
    Calls Tryd.prog 26 #[.int .i64 i] w fun e w' => e = .returned (.string ⟨(Lib.decDigits i).toArray⟩) ∧ w' = w := Any.strconv_Itoa_small Tryd.lays171 i hi w
end Go.Proofs
namespace Go.Proofs.YtlplpmkdebemnaaDoor.Fw
set_option linter.unusedVariables false
set_option linter.unusedSimpArgs false
open Go.RowKit Bv
/-- A closed word, asked of the kernel. -/
theorem kr {p : Prop} (h : p := by kernel_rfl) : p := h
def LoopK (F : Fence) (n : Nat) (P : Program) (nrm ret : Jd) (ex : List (Nat × Jd)) (x : Code) : Nat → Jd
  | 0 => fun _ _ => False
  | m + 1 => Wp F n P ⟨LoopK F n P nrm ret ex x m, ret, ex⟩ x
section
variable {F : Fence} {n : Nat} {P : Program} {X : Cx} {s : List (Nat × Value)} {h : List HA} {nrm ret : Jd} {ex : List (Nat × Jd)} {x : Code}
theorem T_rounds (m : Nat) (hh : Tr X s h (LoopK F n P nrm ret ex x m)) : Tr X s h (Wp F n P ⟨nrm, ret, ex⟩ (.loop x)) := fun a w st => by
  refine wpIn_loop_rounds m ?_
  have key : ∀ m a w, LoopK F n P nrm ret ex x m a w → Code.roundsIn F n P x (toQ ⟨nrm, ret, ex⟩) m a w := by
    intro m
    induction m with
    | zero => intro a w h; exact h.elim
    | succ m ih => intro a w h; exact wpIn_mono h (fun e a w hq => by cases e <;> first | exact ih _ _ hq | exact hq)
  exact key m a w (hh a w st)
theorem T_round {m : Nat} (hh : Tr X s h (Wp F n P ⟨LoopK F n P nrm ret ex x m, ret, ex⟩ x)) : Tr X s h (LoopK F n P nrm ret ex x (m + 1)) := hh
end
section
variable {F : Fence} {n : Nat} {P : Program} {X : Cx} {s : List (Nat × Value)} {h : List HA} {nrm ret K K0 : Jd} {ex : List (Nat × Jd)} {ops : Array Oper} {o : Oper} {os : List Oper} {d : Nat} {v : Value}
theorem lm {x : Operand} (hw : wantS ops s o = some true) (ho : o.op = .move x) (hx : ev s x = some v) (hd : o.dst = some d) (hN : Nat.blt d X.N = true) (hh : Tr X ((d, v) :: s) h (Ls P ops K os)) : Tr X s h (Ls P ops K (o :: os)) := L_op hw (op_pr (pr_move ho hx) hd hN hh)
theorem la {x : Operand} (hw : wantS ops s o = some true) (ho : o.op = .assign x) (hx : ev s x = some v) (hd : o.dst = some d) (hN : Nat.blt d X.N = true) (hh : Tr X ((d, v) :: s) h (Ls P ops K os)) : Tr X s h (Ls P ops K (o :: os)) := L_op hw (op_pr (pr_assign ho hx) hd hN hh)
theorem lo (hw : wantS ops s o = some true) (hp : Pr P s h o v) (hd : o.dst = some d) (hN : Nat.blt d X.N = true) (hh : Tr X ((d, v) :: s) h (Ls P ops K os)) : Tr X s h (Ls P ops K (o :: os)) := L_op hw (op_pr hp hd hN hh)
theorem lq (hw : wantS ops s o = some true) (hp : Ld P s h o v) (hd : o.dst = some d) (hN : Nat.blt d X.N = true) (hh : Tr X ((d, v) :: s) h (Ls P ops K os)) : Tr X s h (Ls P ops K (o :: os)) := L_op hw (op_ld hp hd hN hh)
theorem Tsr {id : Nat} {y : Code} (hF : Wid F) (hd : noDefer os = true) (hh : Tr X s h (Ls P os.toArray (Wp F n P ⟨nrm, ret, ex⟩ y) os)) : Tr X s h (Wp F n P ⟨nrm, ret, ex⟩ (.seq (.region id os.toArray false) y)) := T_seq (T_reg hF hd hh)
theorem op_cn {T : Type} {q : T → Prop} {res : T → Value} {hs : T → List HA} {f : FuncId} {c : Operand} {xs : List Operand} {ts : Array TypeId} {vs : List Value} (hcon : ∀ w, HOK h w → Calls P f vs.toArray w (Ret [] w q res hs)) (hf : Go.Proofs.Enters P f)
    (ho : o.op = .call { callee := .value c, args := xs.toArray, argTypes := ts }) (hc : ev s c = some (.func (.func f) #[] #[])) (hx : xs.map (ev s) = vs.map some) (hd : o.dst = some d) (hN : Nat.blt d X.N = true) (hh : ∀ t, q t → Tr X ((d, res t) :: s) (hs t ++ h) K) : Tr X s h (Op P o K K0) :=
  op_call0 (cap := []) (vs := vs) (by simpa using hcon) hf ho hc hx hd hN hh
theorem op_c1 {T : Type} {q : T → Prop} {res : T → Value} {hs : T → List HA} {f : FuncId} {c : Operand} {xs : List Operand} {ts : Array TypeId} {vs : List Value} {x : HA} (i : Nat) (hi : h[i]? = some x) (hcon : ∀ w, HOK h w → Calls P f vs.toArray w (Ret x.ids w q res hs)) (hf : Go.Proofs.Enters P f)
    (ho : o.op = .call { callee := .value c, args := xs.toArray, argTypes := ts }) (hc : ev s c = some (.func (.func f) #[] #[])) (hx : xs.map (ev s) = vs.map some) (hd : o.dst = some d) (hN : Nat.blt d X.N = true) (hh : ∀ t, q t → Tr X ((d, res t) :: s) (hs t ++ h.eraseIdx i) K) : Tr X s h (Op P o K K0) :=
  op_call1 (cap := []) (vs := vs) i hi (by simpa using hcon) hf ho hc hx hd hN hh
theorem fwz {ty : TypeId} {n : Nat} {vs : List Value} (h : (P.info? ty).map (·.size) = some n) (hl : vs.length = n) : (P.info? ty).map (·.size) = some vs.length := by rw [h, hl]
theorem stl {α : Type} {m : Nat} {xs : List α} {f : α → Value} {v : Value} (h : m < xs.length) : m + [v].length ≤ (xs.map f).length := by simp; omega
theorem stt {m : Nat} {xs : List Value} {v : Value} (h : m < xs.length) : m + [v].length ≤ xs.length := by simp; omega
theorem op_sto {ty e : TypeId} {x y : Operand} {g n : Nat} {cs vs : List Value} (i : Nat) (hi : h[i]? = some (.blk g e cs)) (hv : v.cells.toList = vs) (hz : (P.info? ty).map (·.size) = some n) (h1 : ∀ u ∈ vs, u.oneCell' = true) (hc : cs.length = n) (hl : vs.length = n)
    (ho : o.op = .store ty x y) (hx : ev s x = some (.pointer (some ⟨g, 0, none⟩))) (hy : ev s y = some v) (hd : o.dst = none) (hh : Tr X s (.blk g e vs :: h.eraseIdx i) K) : Tr X s h (Op P o K K0) :=
  op_store i hi hv (fwz hz hl) h1 (by omega) (splice_all (by omega)) ho hx hy hd hh
end
section
variable {P : Program} {s : List (Nat × Value)} {h : List HA} {o : Oper}
theorem pr_eqb {t t2 : TypeId} {x y : Operand} {a b c : Bool} (hc : (a == b) = c) (ht : P.underlying t = some .bool) (ho : o.op = .binOp .eql t x y t2) (hx : ev s x = some (.bool a)) (hy : ev s y = some (.bool b)) : Pr P s h o (.bool c) := fun e he w hw w' => by
  unfold execOp; rw [ho]
  simp only [he _ _ hx, he _ _ hy]
  have hg : (eqGuard .eql t x y (.bool a) (.bool b)).run P w' = .ok () w' := by unfold eqGuard; simp
  rw [Sem.run_bind, Sem.run_bind, hg]
  subst hc
  simp [binOp, run_equal_bool w' t a b ht]
theorem pr_neb {t t2 : TypeId} {x y : Operand} {a b c : Bool} (hc : (a != b) = c) (ht : P.underlying t = some .bool) (ho : o.op = .binOp .neq t x y t2) (hx : ev s x = some (.bool a)) (hy : ev s y = some (.bool b)) : Pr P s h o (.bool c) := fun e he w hw w' => by
  unfold execOp; rw [ho]
  simp only [he _ _ hx, he _ _ hy]
  have hg : (eqGuard .neq t x y (.bool a) (.bool b)).run P w' = .ok () w' := by unfold eqGuard; simp
  rw [Sem.run_bind, Sem.run_bind, hg]
  subst hc
  simp [binOp, run_equal_bool w' t a b ht, bne]
end
end Go.Proofs.YtlplpmkdebemnaaDoor.Fw
namespace Go.Proofs.YtlplpmkdebemnaaDoor.Fw
set_option linter.unusedVariables false
set_option linter.unusedSimpArgs false
open Go.RowKit Bv
section
variable {P : Program} {s : List (Nat × Value)} {h : List HA} {o : Oper} {v : Value}
/-- A call that the model answers itself. -/
theorem pr_extern {f : FuncId} {c : Operand} {xs : List Operand} {ts : Array TypeId} {vs : List Value} (hv : ∀ w, (callFunc f vs.toArray).run P w = .ok (.value v) w)
    (ho : o.op = .call { callee := .value c, args := xs.toArray, argTypes := ts }) (hc : ev s c = some (.func (.func f) #[] #[])) (hx : xs.map (ev s) = vs.map some) : Pr P s h o v := fun e he w hw w' => by
  have key : ∀ (l : List Operand) (r : List Value), l.map (ev s) = r.map some → l.map e = r := by
    intro l
    induction l with
    | nil => intro r hr; cases r with | nil => rfl | cons _ _ => simp at hr
    | cons a l ih => intro r hr; cases r with
      | nil => simp at hr
      | cons b r => simp only [List.map_cons, List.cons.injEq] at hr ⊢; exact ⟨he _ _ hr.1, ih r hr.2⟩
  unfold execOp; rw [ho]
  simp [resolve, he _ _ hc, Deferred.ofValue, invoke, key xs vs hx, hv w']
theorem res3 {fn : Func} {t u q : Nat} {v v' v'' : Value} (hr : fn.results = #[.tmp t, .tmp u, .tmp q]) (hv : s.lookup t = some v) (hv' : s.lookup u = some v') (hv'' : s.lookup q = some v'') : ResV P fn s h (.tuple #[v, v', v'']) := fun tmps hs w hw => by
  simp [results, hr, go_sem, Array.getD_eq_getD_getElem?, hs t v hv, hs u v' hv', hs q v'' hv'']
end
theorem add64_ext {P : Program} {f : FuncId} {fn : Func} (hf : P.funcs[f]? = some fn) (h1 : (fn.name == "runtime.NumGoroutine") = false) (h2 : fn.body.isNone = true) (h3 : Extern.findNext fn = none) (h4 : Extern.find fn = some add64Entry) (x y c : BitVec 64) (hc : c.toNat ≤ 1) :
    ∃ s d : BitVec 64, s.toNat + 18446744073709551616 * d.toNat = x.toNat + y.toNat + c.toNat ∧ d.toNat ≤ 1 ∧ ∀ w, (callFunc f [b64 x, b64 y, b64 c].toArray).run P w = .ok (.value (.tuple [b64 s, b64 d].toArray)) w := by
  have hx := x.isLt
  have hy := y.isLt
  refine ⟨BitVec.ofNat 64 (x.toNat + y.toNat + c.toNat), BitVec.ofNat 64 ((x.toNat + y.toNat + c.toNat) / 18446744073709551616), ?_, ?_, fun w => ?_⟩
  · rw [BitVec.toNat_ofNat, BitVec.toNat_ofNat]; omega
  · rw [BitVec.toNat_ofNat]; omega
  · have h := run_callFunc_extern hf h1 h2 h3 h4 [b64 x, b64 y, b64 c].toArray w
    rw [h]
    have := run_add64 (P := P) (x.toNat : Int) (y.toNat : Int) (c.toNat : Int) (by omega) (by omega) (by omega) (by omega) w
    show ((add64Entry #[.int .u64 (x.toNat : Int), .int .u64 (y.toNat : Int), .int .u64 (c.toNat : Int)]).run P w).andThen _ = _
    have e1 : ((x.toNat : Int) + (y.toNat : Int) + (c.toNat : Int)) % 18446744073709551616 = n64 (BitVec.ofNat 64 (x.toNat + y.toNat + c.toNat)) := by
      unfold n64; rw [BitVec.toNat_ofNat]; omega
    have e2 : ((x.toNat : Int) + (y.toNat : Int) + (c.toNat : Int)) / 18446744073709551616 = n64 (BitVec.ofNat 64 ((x.toNat + y.toNat + c.toNat) / 18446744073709551616)) := by
      unfold n64; rw [BitVec.toNat_ofNat]; omega
    rw [this, e1, e2]
    rfl
end Go.Proofs.YtlplpmkdebemnaaDoor.Fw
namespace Go.Proofs.YtlplpmkdebemnaaDoor.Fw
set_option linter.unusedVariables false
set_option linter.unusedSimpArgs false
open Go.RowKit Bv
theorem nshr_i64 {a m : Nat} (hm : m < 64) : Op.shift .shr .i64 (a : Int) .u64 (m : Int) = pure (.int .i64 ((a / 2 ^ m : Nat) : Int)) := by
  have h1 : ¬ ((m : Int) < 0) := by omega
  have h2 : min (m : Int).toNat (IntKind.bits .i64) = m := by
    have : (m : Int).toNat = m := rfl
    rw [this]; show min m 64 = m; omega
  unfold Op.shift
  rw [if_neg h1]
  simp only [h2]
  have e : ((2 : Int) ^ m) = ((2 ^ m : Nat) : Int) := by simp
  rw [e, Int.fdiv_eq_ediv_of_nonneg _ (Int.natCast_nonneg _), ← Int.natCast_ediv]
end Go.Proofs.YtlplpmkdebemnaaDoor.Fw
namespace Go.Proofs.YtlplpmkdebemnaaDoor.Fw
set_option linter.unusedVariables false
set_option linter.unusedSimpArgs false
open Go.RowKit Bv
theorem res4 {P : Program} {s : List (Nat × Value)} {h : List HA} {fn : Func} {t u q r : Nat} {v v' v'' v3 : Value} (hr : fn.results = #[.tmp t, .tmp u, .tmp q, .tmp r]) (hv : s.lookup t = some v) (hv' : s.lookup u = some v') (hv'' : s.lookup q = some v'') (hv3 : s.lookup r = some v3) : ResV P fn s h (.tuple #[v, v', v'', v3]) := fun tmps hs w hw => by
  simp [results, hr, go_sem, Array.getD_eq_getD_getElem?, hs t v hv, hs u v' hv', hs q v'' hv'', hs r v3 hv3]
end Go.Proofs.YtlplpmkdebemnaaDoor.Fw
namespace Go.Proofs.YtlplpmkdebemnaaDoor.Fw
set_option linter.unusedVariables false
set_option linter.unusedSimpArgs false
open Go.RowKit Bv
variable {P : Program} {X : Cx} {s : List (Nat × Value)} {h : List HA} {o : Oper} {K K0 J : Jd}
/-- A row that holds something, as the block that it stands in. -/
theorem T_unrow (i : Nat) {A : Option Addr} {e : TypeId} {z n c : Nat} {zs : List Value} (hi : h[i]? = some (.row (.slice A n c) e z n zs)) (hn : 0 < n) (hh : ∀ g cs, A = some ⟨g, 0, none⟩ → cs.length = c * z → cs.take (n * z) = zs → n ≤ c → c ≤ 9223372036854775807 → Tr X s (.blk g e cs :: h.eraseIdx i) J) : Tr X s h J := fun a w st => by
  obtain ⟨hl, h1 | ⟨g, cap, cur, hv, _, hb, hnc, hcm, hcl, hz⟩⟩ := st.ok _ (List.mem_of_getElem? hi)
  · obtain ⟨h2, h3⟩ := h1; omega
  · cases hv
    refine hh g cur.toList rfl (by simpa using hcl) hz hnc (by unfold maxLen at hcm; omega) a w ?_
    refine st.swap [.row (.slice (some ⟨g, 0, none⟩) n c) e z n zs] (h.eraseIdx i) [_] (perm_erase h i _ hi) st.sz st.df st.sl (Keep.refl _ _) ?_ ?_ ?_ ?_
    · intro x hx; rw [List.mem_singleton] at hx; subst hx
      show w.heap[g]? = _
      simpa using hb
    · intro x hx k hk; rw [List.mem_singleton] at hx; subst hx; exact .inl (by simpa [HA.ids, HA.frs, Value.ownBlock] using hk)
    · simp [HA.ids]
    · intro x hx r hr; rw [List.mem_singleton] at hx; subst hx; cases hr
theorem op_store_row {ty e : TypeId} {x y : Operand} {A : Option Addr} {n c m : Nat} {xs : List (BitVec 8)} {v : BitVec 8} (i : Nat) (hi : h[i]? = some (.row (.slice A n c) e 1 n (xs.map b8))) (hm : m < n) (hz : (P.info? ty).map (·.size) = some 1)
    (ho : o.op = .store ty x y) (hx : ev s x = some (.pointer (some ((adr A).add m)))) (hy : ev s y = some (b8 v)) (hd : o.dst = none) (hh : Tr X s (.row (.slice A n c) e 1 n ((xs.set m v).map b8) :: h.eraseIdx i) K) : Tr X s h (Op P o K K0) := by
  refine T_unrow i hi (by omega) (fun g cs hA hl ht hnc hc => ?_)
  subst hA
  have hx' : ev s x = some (.pointer (some ⟨g, m, none⟩)) := by
    rw [hx]; simp [adr, Addr.add]; omega
  refine op_store (vs := [b8 v]) (cs' := cs.set m (b8 v)) 0 rfl rfl hz (one_one rfl) (by simp; omega) (splice_set (by omega)) ho hx' hy hd ?_
  refine T_rowb 0 (zs := (xs.set m v).map b8) 1 n c rfl hnc hc (by simpa using hl) ?_ hh
  rw [Nat.mul_one] at ht ⊢
  rw [List.map_set, ← ht, List.take_set]
end Go.Proofs.YtlplpmkdebemnaaDoor.Fw
namespace Go.Proofs.YtlplpmkdebemnaaDoor.Fw
set_option linter.unusedVariables false
set_option linter.unusedSimpArgs false
open Go.RowKit Bv
section
variable {P : Program} {X : Cx} {s : List (Nat × Value)} {h : List HA} {o : Oper} {K K0 J : Jd}
/-- The address of a field. -/
theorem pr_fa {x : Operand} {t : TypeId} {fs : Array Field} {f : Field} {i g m m' z : Nat} (hm : m + f.offset = m') (ht : P.underlying t = some (.struct fs)) (hf : fs[i]? = some f) (hz : (P.info? f.type).map (·.size) = some (z + 1)) (ho : o.op = .fieldAddr t x i) (hx : ev s x = some (.pointer (some ⟨g, m, none⟩))) :
    Pr P s h o (.pointer (some ⟨g, m', none⟩)) := fun e he w hw w' => by
  subst hm
  unfold execOp; rw [ho]
  simp [he _ _ hx, Instr.fieldAt, Instr.sureAddr, run_underlying ht, hf, fieldPlace, run_sizeOf hz, Addr.add_lit]
theorem pr_eqs {bo : BinOp} {ty ty2 : TypeId} {x y : Operand} {xs ys : List Value} {c r : Bool} (hr : ∀ d w, (Op.equalIn (d + 3) ty (.agg xs.toArray) (.agg ys.toArray)).run P w = .ok c w) (hg : Program.eqGuardType P (Program.depth P) ty = false) (hb : (match bo with | .eql => c | .neq => !c | _ => r) = r) (hbo : (bo == .eql || bo == .neq) = true)
    (ho : o.op = .binOp bo ty x y ty2) (hx : ev s x = some (.agg xs.toArray)) (hy : ev s y = some (.agg ys.toArray)) : Pr P s h o (.bool r) := fun e he w hw w' => by
  unfold execOp
  simp only [ho, he _ _ hx, he _ _ hy, Sem.run_bind, run_eqGuard_agg w' _ _ _ _ _ _ hg, Result.andThen_ok]
  have h1 := hr 9997 w'
  cases bo <;> first
    | (cases hbo; done)
    | (simp only at hb; subst hb; rw [run_eql_struct, h1]; rfl)
    | (simp only at hb; subst hb; rw [run_neq_struct, h1]; rfl)
section
variable {w : World} {d : Nat} {t : TypeId} {xs ys : List Value}
theorem eqs {fs : Array Field} {r : Bool} (ht : P.underlying t = some (.struct fs)) (hp : P.stoodInHeld t = false) (h : (Op.eqFields d xs.toArray ys.toArray fs.toList).run P w = .ok r w) : (Op.equalIn (d + 1) t (.agg xs.toArray) (.agg ys.toArray)).run P w = .ok r w := by
  have e : P.fieldsOf t = fs := by unfold Program.fieldsOf; rw [ht]
  rw [run_equalIn_struct w d t _ _ (by rw [e]; exact ht) hp, e]; exact h
theorem eqf_nil : (Op.eqFields d xs.toArray ys.toArray []).run P w = .ok true w := by simp [Op.eqFields]
theorem eqf {f : Field} {fs : List Field} {a b : Value} {c r : Bool} (hn : (f.name != "_") = true) (ha : (part f.type xs.toArray f.offset).run P w = .ok a w) (hb : (part f.type ys.toArray f.offset).run P w = .ok b w) (he : (Op.equalIn d f.type a b).run P w = .ok c w) (hr : (Op.eqFields d xs.toArray ys.toArray fs).run P w = .ok r w) :
    (Op.eqFields d xs.toArray ys.toArray (f :: fs)).run P w = .ok (c && r) w := by
  unfold Op.eqFields
  rw [if_pos (by simpa using hn)]
  simp only [Sem.run_bind, ha, hb, he, Result.andThen_ok]
  cases c <;> simp [hr]
/-- A field that both have alike. -/
theorem eqt {f : Field} {fs : List Field} {a b : Value} {r : Bool} (hn : (f.name != "_") = true) (ha : (part f.type xs.toArray f.offset).run P w = .ok a w) (hb : (part f.type ys.toArray f.offset).run P w = .ok b w) (he : (Op.equalIn d f.type a b).run P w = .ok true w) (hr : (Op.eqFields d xs.toArray ys.toArray fs).run P w = .ok r w) :
    (Op.eqFields d xs.toArray ys.toArray (f :: fs)).run P w = .ok r w := eqf hn ha hb he hr
theorem part1 {td : TypeDesc} {v : Value} {off : Nat} (ht : P.underlying t = some td) (hn : isAggT td = false) (hx : xs[off]? = some v) : (part t xs.toArray off).run P w = .ok v w := by
  unfold part isAgg
  simp only [Sem.run_bind, run_underlying ht, Result.andThen_ok]
  cases td <;> simp_all [isAggT]
theorem partA {td : TypeDesc} {zs : List Value} {off n : Nat} (ht : P.underlying t = some td) (hn : isAggT td = true) (hz : (P.info? t).map (·.size) = some n) (hx : (xs.drop off).take n = zs) : (part t xs.toArray off).run P w = .ok (.agg zs.toArray) w := by
  unfold part isAgg
  simp only [Sem.run_bind, run_underlying ht, Result.andThen_ok]
  cases td <;> simp_all [isAggT, run_sizeOf hz]
theorem eqv_i {k k' : IntKind} {a b : Int} (ht : P.underlying t = some (.int k')) : (Op.equalIn (d + 1) t (.int k a) (.int k b)).run P w = .ok (a == b) w := run_equalIn_int w d t k k' a b ht
theorem eqv_n {k k' : IntKind} {a b : Nat} (ht : P.underlying t = some (.int k')) : (Op.equalIn (d + 1) t (.int k (a : Int)) (.int k (b : Int))).run P w = .ok (a == b) w := by
  rw [run_equalIn_int w d t k k' _ _ ht]
  have : (((a : Nat) : Int) == ((b : Nat) : Int)) = (a == b) := by rw [Bool.eq_iff_iff, beq_iff_eq, beq_iff_eq]; omega
  rw [this]
theorem eqv_8 {k' : IntKind} {a b : BitVec 8} (ht : P.underlying t = some (.int k')) : (Op.equalIn (d + 1) t (b8 a) (b8 b)).run P w = .ok (a == b) w := by
  rw [b8, b8, run_equalIn_int w d t _ k' _ _ ht, n8_beq]
theorem eqv_64 {k' : IntKind} {a b : BitVec 64} (ht : P.underlying t = some (.int k')) : (Op.equalIn (d + 1) t (b64 a) (b64 b)).run P w = .ok (a == b) w := by
  rw [b64, b64, run_equalIn_int w d t _ k' _ _ ht, n64_beq]
theorem eqv_b {a b : Bool} (ht : P.underlying t = some .bool) : (Op.equalIn (d + 1) t (.bool a) (.bool b)).run P w = .ok (a == b) w := run_equalIn_bool w d t a b ht
theorem eqv_si {k k' : IntKind} {a : Int} (ht : P.underlying t = some (.int k')) : (Op.equalIn (d + 1) t (.int k a) (.int k a)).run P w = .ok true w := by
  rw [run_equalIn_int w d t k k' a a ht]; simp
theorem eqv_sb {a : Bool} (ht : P.underlying t = some .bool) : (Op.equalIn (d + 1) t (.bool a) (.bool a)).run P w = .ok true w := by
  rw [run_equalIn_bool w d t a a ht]; simp
/-- Two arrays of two numbers. -/
theorem eqv_a2 {e : TypeId} {k' : IntKind} {a b a' b' : BitVec 64} (ht : P.underlying t = some (.array 2 e)) (he : P.underlying e = some (.int k')) (hz : (P.info? e).map (·.size) = some 1) :
    (Op.equalIn (d + 2) t (.agg [b64 a, b64 b].toArray) (.agg [b64 a', b64 b'].toArray)).run P w = .ok ((a == a') && (b == b')) w := by
  have p : ∀ (zs : List Value) v i, zs[i]? = some v → (part e zs.toArray i).run P w = .ok v w := fun zs v i hx => part1 he rfl hx
  have e1 := eqv_64 (P := P) (w := w) (d := d) (a := a) (b := a') he
  have e2 := eqv_64 (P := P) (w := w) (d := d) (a := b) (b := b') he
  have p0 := p [b64 a, b64 b] (b64 a) 0 rfl
  have p1 := p [b64 a, b64 b] (b64 b) 1 rfl
  have q0 := p [b64 a', b64 b'] (b64 a') 0 rfl
  have q1 := p [b64 a', b64 b'] (b64 b') 1 rfl
  generalize (a == a') = c1 at e1 ⊢
  generalize (b == b') = c2 at e2 ⊢
  rw [Op.equalIn]
  simp only [Sem.run_bind, run_underlying ht, Result.andThen_ok, run_sizeOf hz, Std.Legacy.Range.forIn_eq_forIn_range', Std.Legacy.Range.size, List.range'_succ, List.range', List.forIn_cons, List.forIn_nil, Nat.reduceAdd, Nat.reduceSub, Nat.reduceDiv, Nat.mul_one, Nat.zero_mul, p0, p1, q0, q1, e1, e2]
  cases c1 <;> cases c2 <;> simp [p1, q1, e2]
theorem eqv_sa2 {e : TypeId} {k' : IntKind} {a b : BitVec 64} (ht : P.underlying t = some (.array 2 e)) (he : P.underlying e = some (.int k')) (hz : (P.info? e).map (·.size) = some 1) :
    (Op.equalIn (d + 2) t (.agg [b64 a, b64 b].toArray) (.agg [b64 a, b64 b].toArray)).run P w = .ok true w := by
  have h := eqv_a2 (P := P) (w := w) (d := d) (a := a) (b := b) (a' := a) (b' := b) ht he hz
  simpa using h
end
/-- Results of which the first lies in memory. -/
theorem resct {fn : Func} {p u : Nat} {ty : TypeId} {g : Nat} {e' : TypeId} {cs : List Value} {td : TypeDesc} {v : Value} (i : Nat) (hi : h[i]? = some (.blk g e' cs)) (hr : fn.results = #[.cell p ty, .tmp u]) (hp : s.lookup p = some (.pointer (some ⟨g, 0, none⟩))) (ht : P.underlying ty = some td) (hn : isAggT td = true) (hz : (P.info? ty).map (·.size) = some cs.length) (hv : s.lookup u = some v) :
    ResV P fn s h (.tuple #[.agg cs.toArray, v]) := fun tmps hs w hw => by
  have hb : w.heap[g]? = some (.cells cs.toArray e' (0, 0)) := hw _ (List.mem_of_getElem? hi)
  have h1 : tmps[p]?.getD undef = .pointer (some ⟨g, 0, none⟩) := by simp [hs p _ hp]
  have h2 : tmps[u]?.getD undef = v := by simp [hs u _ hv]
  have h3 := run_loadVar_row (P := P) w g e' ty cs.toArray (0, 0) td hb ht (by cases td <;> first | (cases hn; done) | rfl) (by simpa using hz)
  simp [results, hr, h1, h2, asAddr, h3]
theorem resctt {fn : Func} {p u u2 : Nat} {ty : TypeId} {g : Nat} {e' : TypeId} {cs : List Value} {td : TypeDesc} {v v2 : Value} (i : Nat) (hi : h[i]? = some (.blk g e' cs)) (hr : fn.results = #[.cell p ty, .tmp u, .tmp u2]) (hp : s.lookup p = some (.pointer (some ⟨g, 0, none⟩))) (ht : P.underlying ty = some td) (hn : isAggT td = true) (hz : (P.info? ty).map (·.size) = some cs.length) (hv : s.lookup u = some v) (hv2 : s.lookup u2 = some v2) :
    ResV P fn s h (.tuple #[.agg cs.toArray, v, v2]) := fun tmps hs w hw => by
  have hb : w.heap[g]? = some (.cells cs.toArray e' (0, 0)) := hw _ (List.mem_of_getElem? hi)
  have h1 : tmps[p]?.getD undef = .pointer (some ⟨g, 0, none⟩) := by simp [hs p _ hp]
  have h2 : tmps[u]?.getD undef = v := by simp [hs u _ hv]
  have h4 : tmps[u2]?.getD undef = v2 := by simp [hs u2 _ hv2]
  have h3 := run_loadVar_row (P := P) w g e' ty cs.toArray (0, 0) td hb ht (by cases td <;> first | (cases hn; done) | rfl) (by simpa using hz)
  simp [results, hr, h1, h2, h4, asAddr, h3]
theorem rescttt {fn : Func} {p u u2 u3 : Nat} {ty : TypeId} {g : Nat} {e' : TypeId} {cs : List Value} {td : TypeDesc} {v v2 v3 : Value} (i : Nat) (hi : h[i]? = some (.blk g e' cs)) (hr : fn.results = #[.cell p ty, .tmp u, .tmp u2, .tmp u3]) (hp : s.lookup p = some (.pointer (some ⟨g, 0, none⟩))) (ht : P.underlying ty = some td) (hn : isAggT td = true) (hz : (P.info? ty).map (·.size) = some cs.length) (hv : s.lookup u = some v) (hv2 : s.lookup u2 = some v2) (hv3 : s.lookup u3 = some v3) :
    ResV P fn s h (.tuple #[.agg cs.toArray, v, v2, v3]) := fun tmps hs w hw => by
  have hb : w.heap[g]? = some (.cells cs.toArray e' (0, 0)) := hw _ (List.mem_of_getElem? hi)
  have h1 : tmps[p]?.getD undef = .pointer (some ⟨g, 0, none⟩) := by simp [hs p _ hp]
  have h2 : tmps[u]?.getD undef = v := by simp [hs u _ hv]
  have h4 : tmps[u2]?.getD undef = v2 := by simp [hs u2 _ hv2]
  have h5 : tmps[u3]?.getD undef = v3 := by simp [hs u3 _ hv3]
  have h3 := run_loadVar_row (P := P) w g e' ty cs.toArray (0, 0) td hb ht (by cases td <;> first | (cases hn; done) | rfl) (by simpa using hz)
  simp [results, hr, h1, h2, h4, h5, asAddr, h3]
end
end Go.Proofs.YtlplpmkdebemnaaDoor.Fw
namespace Go.Proofs.YtlplpmkdebemnaaDoor.Fw
set_option linter.unusedVariables false
set_option linter.unusedSimpArgs false
open Go.RowKit Bv
/-- A record: whether it is none, its key, its value, where it came from. -/
structure Rc where
  d : Bool
  k : BitVec 64
  v : BitVec 64
  s : BitVec 64
deriving DecidableEq
def Rc.cs (r : Rc) : List Value := [.bool r.d, .int .i64 (i64 r.k), .int .i64 (i64 r.v), .int .i64 (i64 r.s)]
def rc0 : Rc := ⟨false, 0#64, 0#64, 0#64⟩
def rcs : List Rc → List Value
  | [] => []
  | r :: l => r.cs ++ rcs l
def rat (xs : List Rc) (j : Nat) : Rc := xs.getD j rc0
theorem rcs_app (xs ys : List Rc) : rcs (xs ++ ys) = rcs xs ++ rcs ys := by
  induction xs with
  | nil => rfl
  | cons x xs ih => rw [List.cons_append, rcs, rcs, ih, List.append_assoc]
theorem rcs_len (xs : List Rc) : (rcs xs).length = xs.length * 4 := by
  induction xs with
  | nil => rfl
  | cons x xs ih => rw [rcs, List.length_append, ih, List.length_cons]; show 4 + _ = _; omega
theorem rcs_drop (xs : List Rc) : ∀ j, (rcs xs).drop (j * 4) = rcs (xs.drop j) := by
  induction xs with
  | nil => intro j; simp [rcs]
  | cons x xs ih => intro j; cases j with
    | zero => simp
    | succ j =>
      rw [List.drop_succ_cons, ← ih j, rcs, show (j + 1) * 4 = x.cs.length + j * 4 from by show _ = 4 + _; omega, ← List.drop_drop, List.drop_left]
theorem rcs_take (xs : List Rc) : ∀ j, (rcs xs).take (j * 4) = rcs (xs.take j) := by
  induction xs with
  | nil => intro j; simp [rcs]
  | cons x xs ih => intro j; cases j with
    | zero => simp [rcs]
    | succ j =>
      rw [List.take_succ_cons, rcs, rcs, ← ih j, show (j + 1) * 4 = x.cs.length + j * 4 from by show _ = 4 + _; omega, List.take_length_add_append]
theorem rcs_at (xs : List Rc) (j : Nat) (h : j < xs.length) : ((rcs xs).drop (j * 4)).take 4 = (rat xs j).cs := by
  rw [rcs_drop, List.drop_eq_getElem_cons h, rcs, rat, List.getD_eq_getElem?_getD, List.getElem?_eq_getElem h]
  rfl
theorem rat_take (xs : List Rc) (n j : Nat) (h : j < n) : rat (xs.take n) j = rat xs j := by unfold rat; simp [List.getD_eq_getElem?_getD, List.getElem?_take, h]
theorem rcs_one (xs : List Rc) : ∀ u ∈ rcs xs, u.oneCell' = true := by
  induction xs with
  | nil => intro u hu; cases hu
  | cons x xs ih =>
    intro u hu
    rcases List.mem_append.1 hu with h | h
    · simp only [Rc.cs, List.mem_cons, List.not_mem_nil, or_false] at h
      rcases h with rfl | rfl | rfl | rfl <;> rfl
    · exact ih u h
theorem rcs_rep (n : Nat) : rcs (List.replicate n rc0) = (List.replicate n rc0.cs).flatten := by
  induction n with
  | zero => rfl
  | succ n ih => rw [List.replicate_succ, List.replicate_succ, rcs, List.flatten_cons, ih]
theorem zc_i64u (x : BitVec 64) : IntKind.u64.wrap (i64 x) = n64 x := i64_u64 x
theorem zc_u64i (x : BitVec 64) : IntKind.i64.wrap (n64 x) = i64 x := by
  unfold n64 i64
  have h1 := x.isLt
  rw [IntKind.wrap_i64, BitVec.toInt_eq_toNat_cond]
  split <;> omega
section
variable {P : Program} {X : Cx} {s : List (Nat × Value)} {h : List HA} {o : Oper} {K K0 J : Jd}
/-- A record out of a slice of them. -/
theorem ld_rc {A : Option Addr} {n c j : Nat} {xs : List Rc} {x : Operand} {ty : TypeId} {td : TypeDesc} (hs : Src h A 4 n c (rcs xs)) (hj : j < n) (ht : P.underlying ty = some td) (hn : isAggT td = true) (hz : (P.info? ty).map (·.size) = some 4) (ho : o.op = .load ty x) (hx : ev s x = some (.pointer (some ((adr A).add (j * 4))))) :
    Ld P s h o (.agg [.bool (rat xs j).d, .int .i64 (i64 (rat xs j).k), .int .i64 (i64 (rat xs j).v), .int .i64 (i64 (rat xs j).s)].toArray) := fun e he w hw => by
  have hr := (hs w hw).1
  have hl := hr.len
  rw [rcs_len] at hl
  cases A with
  | none => have h1 := hr.isn rfl; have h2 := hr.le; omega
  | some ad =>
    show (execOp e o).run P w = _
    unfold execOp; rw [ho]
    simp only [he _ _ hx, Instr.loadAt, Instr.sureAddr, Sem.run_bind, Sem.run_pure, Result.andThen_ok]
    rw [run_loadAgg (ds := (rat xs j).cs) (fun i v hi => ?_) ht hn (by rw [hz]; rfl)]
    · rfl
    · rw [← rcs_at xs j (by omega), List.getElem?_take] at hi
      split at hi
      · rw [List.getElem?_drop] at hi
        have := hr.cells ad rfl _ _ hi
        rw [← this]
        show w.cell? ((ad.add (j * 4)).add i) = _
        congr 1
        obtain ⟨b, q, z⟩ := ad
        by_cases h1 : j * 4 = 0 <;> by_cases h2 : i = 0 <;> simp [Addr.add, h1, h2, Nat.add_assoc] <;> omega
      · cases hi
theorem madeCells_agg (zs : List Value) (n : Nat) (h : 0 < zs.length) : (madeCells zs.toArray (n * zs.length)).toList = (List.replicate n zs).flatten := by
  induction n with
  | zero => simp [madeCells]
  | succ n ih =>
    rw [List.replicate_succ', List.flatten_append, ← ih]
    apply List.ext_getElem
    · simp [madeCells, Nat.succ_mul]
    · intro i h1 h2
      simp [madeCells] at h1 ⊢
      by_cases hi : i < n * zs.length
      · rw [List.getElem_append_left (by simpa using hi)]; simp
      · rw [List.getElem_append_right (by simpa using hi)]
        simp
        have : i % zs.length = i - n * zs.length := by
          have e : i = (i - n * zs.length) + zs.length * n := by rw [Nat.mul_comm zs.length n]; omega
          rw [e, Nat.add_mul_mod_self_left, Nat.mod_eq_of_lt (by rw [Nat.succ_mul] at h1; omega)]
          rw [Nat.mul_comm zs.length n]; omega
        rw [this, List.getElem?_eq_getElem (by rw [Nat.succ_mul] at h1; omega)]
        rfl
/-- A slice of records is made. -/
theorem op_makeR {d : Nat} {t e : TypeId} {x y : Operand} {bytes n c : Nat} (ht : P.underlying t = some (.slice e)) (hi : (P.info? e).map (fun i => (i.zero, i.size, i.bytes)) = some (some (.agg rc0.cs.toArray), 4, bytes)) (hnc : n ≤ c) (hb : bytes * c ≤ 281474976710656) (hc : c ≤ 9223372036854775807)
    (ho : o.op = .makeSlice t x y) (hx : ev s x = some (.int .i64 (n : Int))) (hy : ev s y = some (.int .i64 (c : Int))) (hd : o.dst = some d) (hN : Nat.blt d X.N = true)
    (hh : ∀ g, Tr X ((d, .slice (some ⟨g, 0, none⟩) n c) :: s) (.blk g e (rcs (List.replicate c rc0)) :: h) K) : Tr X s h (Op P o K K0) := fun a w st => by
  obtain ⟨i, hi1, hi2⟩ := Option.map_eq_some_iff.1 hi
  simp only [Prod.mk.injEq] at hi2
  obtain ⟨h1, h2, h3⟩ := hi2
  have hb' : (i.bytes : Int) * (c : Int) ≤ 281474976710656 := by rw [h3]; omega
  have hr := run_make (P := P) w t e i _ ht hi1 h1 .i64 .i64 (n : Int) (c : Int) (by omega) (by omega) hb' (by omega)
  have hcells : madeCells (Value.agg rc0.cs.toArray).cells (((c : Int)).toNat * i.size) = (rcs (List.replicate c rc0)).toArray := by
    apply Array.toList_inj.1
    rw [h2, Int.toNat_natCast, rcs_rep]
    exact madeCells_agg rc0.cs c (by decide)
  rw [hcells] at hr
  have hr' : (execOp a.eval o).run P w = .ok (.value (.slice (some ⟨w.heap.size, 0, none⟩) n c)) (w.alloc (.cells (rcs (List.replicate c rc0)).toArray e (0, 0))) := by
    unfold execOp; rw [ho]
    simp only [st.ag _ _ hx, st.ag _ _ hy]
    rw [Sem.run_bind, hr]; rfl
  exact op_val hr' (by rw [hd]; exact hh _ _ _ (st.newblk hN e _ _))
end
end Go.Proofs.YtlplpmkdebemnaaDoor.Fw
namespace Go.Proofs.YtlplpmkdebemnaaDoor.Fw
set_option linter.unusedVariables false
set_option linter.unusedSimpArgs false
open Go.RowKit Bv
/-- **A range over a function whose body may return.** -/
theorem T_rangeR {E : Bool} {Θ T Tx : Type} {n : Nat} {P : Program} {N : Nat} {C : List Nat} {w0 : World} {lo : Nat} {rs : Nat → Prop} {ds : List Deferred} {s : List (Nat × Value)} {h : List HA} {nrm ret : Jd} {ex : List (Nat × Jd)} {g : Operand} {ps : List Nat} {assign body : Code} {gf : FuncId} {cap : List Value} {rds : List HA} {nv : Nat} {xs : Nat → Θ → List Value} {hd : Nat → Θ → List HA}
    (hseq : SeqX E P gf cap rds nv xs hd) (hg : ev s g = some (.func (.func gf) #[] cap.toArray)) (hen : Go.Proofs.Enters P gf)
    (p : Nat → T → Prop) (η : Nat → T → List HA) (q : Tx → Prop) (ηx : Tx → List HA) (t0 : T) (h0 : p 0 t0) (is : List Nat) (hi : Pick h is (η 0 t0)) (js : List Nat) (hj : js.map (fun j => (h[j]?).map HA.asrd) = rds.map some) (hjr : js.all (fun j => match h[j]? with | some x => x.asrd.bs.isNone && x.ids.isEmpty | none => false) = true)
    (hηn' : ∀ k t, (η k t).all HA.plainB = true) (hηx' : ∀ t, (ηx t).all HA.plainB = true) (hdr : ∀ k θ, (hd k θ).all rdB = true) (hps : ∀ k θ, (xs k θ).length = ps.length) (hpN : ps.all (fun p => Nat.blt p N) = true)
    (hrs : ∀ r, rs r) (hround : ∀ (C2 : List Nat) (w2 : World) (lo2 : Nat) (rs2 : Nat → Prop) (l D m k : Nat) (t : T) (θ : Θ) (rec : Loop), rec.state = .ready → k < nv → p k t →
      Tr ⟨N, C2, w2, lo2, rs2, []⟩ (slotsOf ps (xs k θ) ++ s) (hd k θ ++ (.obj l (.loop rec) :: .obj D (.deferred (some [])) :: η k t))
        (Wp (Fence.wide.inRound l) m P ⟨Begun l m P ⟨N, C2, w2, lo2, rs2, []⟩ rec ⟨RoundOn l D ⟨N, C2, w2, lo2, rs2, []⟩ rec (p (k + 1)) (η (k + 1)), RoundOn l D ⟨N, C2, w2, lo2, rs2, []⟩ rec q ηx, []⟩ body, fun _ _ => False, []⟩ assign))
    (hdone : ∀ (D : Nat) (t : T), p nv t → Tr ⟨N, C, w0, lo, rs, { target := .collected D, args := #[] } :: ds⟩ s (.obj D (.deferred (some [])) :: η nv t) nrm)
    (hstop : ∀ (D : Nat) (t : Tx), q t → Tr ⟨N, C, w0, lo, rs, { target := .collected D, args := #[] } :: ds⟩ s (.obj D (.deferred (some [])) :: ηx t) (Wp Fence.wide n P ⟨nrm, ret, ex⟩ (.ret)))
    (hE : E = true → ∀ t, ¬ p nv t := by intro h; cases h) :
    Tr ⟨N, C, w0, lo, rs, ds⟩ s h (Wp Fence.wide n P ⟨nrm, ret, ex⟩ (.rangeFunc g ps.toArray assign body)) := fun a w st => by
  refine wpIn_rangeFunc fun fn hfn => ?_
  rw [show Fence.wide.round = none from rfl]
  have hηn : ∀ k t, ∀ x ∈ η k t, x.bs = none := fun k t x hx => plain_bs (List.all_eq_true.1 (hηn' k t) x hx)
  have hηx : ∀ t, ∀ x ∈ ηx t, x.bs = none := fun t x hx => plain_bs (List.all_eq_true.1 (hηx' t) x hx)
  let R0 : LoopState → Option Code → Loop := fun st pe => { state := st, pending := pe, fn, tmps := a.tmps, params := ps.toArray, assign, body, defers := w.heap.size }
  let X1 : Cx := ⟨N, C, w0, lo, rs, []⟩
  let a1 : Act := { tmps := a.tmps, defers := [] }
  have stA : ∀ {h' : List HA} {w' : World}, St ⟨N, C, w0, lo, rs, ds⟩ s h' a w' → St X1 s h' a1 w' := fun st => ⟨st.sz, rfl, st.sl, st.kp, st.ok, st.ll, st.fr, st.nd, st.dj, st.iv, st.ib, st.rk⟩
  let lI := w.heap.size + 1
  let D := w.heap.size
  let W1 := (w.alloc (.deferred (some []))).alloc (.loop (R0 .ready none))
  let hp := fun (r : Loop) (l : List HA) => HA.obj lI (.loop r) :: .obj D (.deferred (some [])) :: l
  have st0 : St X1 s (hp (R0 .ready none) (η 0 t0)) a1 W1 := by
    have h1 := (stA (st.pick hi)).newobj (.deferred (some []))
    have h2 := h1.newobj (.loop (R0 .ready none))
    rw [show (w.alloc (Obj.deferred (some []))).heap.size = lI from World.size_alloc _ _] at h2
    exact h2
  let J : JJ := fun k O R W => ∃ t, p k t ∧ St X1 s (hp (R0 .ready none) (η k t)) a1 W ∧ O = (hp (R0 .ready none) (η k t)).flatMap HA.ids ∧ R = (hp (R0 .ready none) (η k t)).flatMap HA.rids
  let Jx : JX := fun O R W => ∃ t, q t ∧ St X1 s (hp (R0 .done (some (.ret))) (ηx t)) a1 W ∧ O = (hp (R0 .done (some (.ret))) (ηx t)).flatMap HA.ids ∧ R = (hp (R0 .done (some (.ret))) (ηx t)).flatMap HA.rids
  have hpn : ∀ r l, (∀ x ∈ l, x.bs = none) → ∀ x ∈ hp r l, x.bs = none := by
    intro r l hl x hx
    rcases List.mem_cons.1 hx with rfl | hx
    · rfl
    · rcases List.mem_cons.1 hx with rfl | hx
      · rfl
      · exact hl x hx
  have hW1s : w.heap.size ≤ W1.heap.size := by show w.heap.size ≤ ((w.alloc _).alloc _).heap.size; simp; omega
  have hw0 : w0.heap.size ≤ W1.heap.size := Nat.le_trans st.kp.same.size hW1s
  refine ⟨lI, [{ target := .collected D, args := #[] }], W1, { target := .fn (.func gf) cap.toArray, args := #[.func (.yield lI) #[] #[]] }, W1, gf, (.func (.yield lI) #[] #[] :: cap).toArray, W1, ?_, ?_, fun f' _ => trivial, ?_, fun hh => absurd hh (by simp [Fence.wide]), ?_⟩
  · exact run_enterLoop_outer _ _ _ _ _
  · have hev : a.eval (.const (.func (.yield lI) #[] #[])) = .func (.yield lI) #[] #[] := rfl
    simp only [resolve, rangeCall, st.ag g _ hg]
    simp [Deferred.ofValue, hev]
  · have := hen (#[.func (.yield lI) #[] #[]] ++ cap.toArray) W1
    have e : (#[Value.func (.yield lI) #[] #[]] ++ cap.toArray) = (Value.func (.yield lI) #[] #[] :: cap).toArray := by simp
    rw [e] at this
    simp only [invoke]
    rw [e]; exact this
  · have hlow : ∀ {r : Loop} {l : List HA} {W : World}, St X1 s (hp r l) a1 W → ∀ i ∈ (hp r l).flatMap HA.ids ++ (hp r l).flatMap HA.rids, i < W.heap.size := by
      intro r l W hst i hin
      rcases List.mem_append.1 hin with h1 | h1 <;> obtain ⟨x, hx, hxi⟩ := List.mem_flatMap.1 h1
      · exact HA.lt (hst.ok x hx) i (List.mem_append.2 (.inl hxi))
      · exact HA.lt (hst.ok x hx) i (List.mem_append.2 (.inr hxi))
    have hrW : HOK rds W1 := by
      intro x hx
      have : some x ∈ js.map (fun j => (h[j]?).map HA.asrd) := by rw [hj]; exact List.mem_map.2 ⟨x, hx, rfl⟩
      obtain ⟨j, hjm, hje⟩ := List.mem_map.1 this
      obtain ⟨y, hy, rfl⟩ := Option.map_eq_some_iff.1 hje
      have hyh := List.mem_of_getElem? hy
      have hb := List.all_eq_true.1 hjr j hjm
      simp only [hy, Bool.and_eq_true, Option.isNone_iff_eq_none] at hb
      have hyb : y.bs = none := by have := hb.1; cases y <;> first | rfl | (cases this; done)
      refine asrd_ok (HA.ok_keep (st.ok y hyh) ⟨rfl, rfl, rfl, hW1s⟩ (fun i hin => ?_) (fun B hB => by rw [hyb] at hB; cases hB))
      have hlt := HA.lt (st.ok y hyh) i hin
      show ((w.alloc _).alloc _).heap[i]? = _
      rw [Below.heap_alloc _ _ _ (by simp; omega), Below.heap_alloc _ _ _ hlt]
    have hrO : ∀ x ∈ rds, ∀ r ∈ x.rids, r ∉ (hp (R0 .ready none) (η 0 t0)).flatMap HA.ids := by
      intro x hx r hr hin
      have : some x ∈ js.map (fun j => (h[j]?).map HA.asrd) := by rw [hj]; exact List.mem_map.2 ⟨x, hx, rfl⟩
      obtain ⟨j, hjm, hje⟩ := List.mem_map.1 this
      obtain ⟨y, hy, rfl⟩ := Option.map_eq_some_iff.1 hje
      have hyh := List.mem_of_getElem? hy
      rw [asrd_rids] at hr
      have hlt := HA.lt (st.ok y hyh) r (List.mem_append.2 (.inr hr))
      obtain ⟨z, hz, hzr⟩ := List.mem_flatMap.1 hin
      rcases List.mem_cons.1 hz with rfl | hz
      · simp [HA.ids] at hzr; omega
      · rcases List.mem_cons.1 hz with rfl | hz
        · simp [HA.ids] at hzr; omega
        · have hzh : z ∈ h := by
            have : some z ∈ is.map (h[·]?) := by rw [hi.2]; exact List.mem_map.2 ⟨z, hz, rfl⟩
            obtain ⟨i, _, hi'⟩ := List.mem_map.1 this
            exact List.mem_of_getElem? hi'
          exact st.dj y hyh z hzh r hr hzr
    refine (hseq lI J Jx W1 _ _ (n - 1) hrW hrO ?_ ?_ (hlow st0) ?_ (fun hEt O R W ⟨t, ht, _⟩ => hE hEt t ht) ⟨t0, h0, st0, rfl, rfl⟩).mono ?_
    · rintro k O R W W' ⟨t, ht, hst, rfl, rfl⟩ hs hb hin
      exact ⟨t, ht, hst.stab hw0 (hpn _ _ (hηn k t)) hs hb hin, rfl, rfl⟩
    · rintro O R W W' ⟨t, ht, hst, rfl, rfl⟩ hs hb hin
      exact ⟨t, ht, hst.stab hw0 (hpn _ _ (hηx t)) hs hb hin, rfl, rfl⟩
    · rintro k θ O R Wy m hk ⟨t, ht, hst, rfl, rfl⟩ hdk hdO
      have hlw : Wy.heap[lI]? = some (.loop (R0 .ready none)) := hst.ok _ (List.mem_cons_self ..)
      have hy := run_yield (P := P) (args := (xs k θ).toArray) hlw (by show (xs k θ).toArray.size = ps.toArray.size; simp [hps k θ])
      refine ⟨fn, _, assign, body, hy, roundIn_of_wpIn hfn ?_⟩
      have hzip : ((R0 .ready none).params.zip (xs k θ).toArray).foldl (fun tmps (x : Nat × Value) => tmps.setIfInBounds x.1 x.2) (R0 .ready none).tmps = (ps.zip (xs k θ)).foldl (fun (t : Array Value) (q : Nat × Value) => t.setIfInBounds q.1 q.2) a.tmps := by
        show (ps.toArray.zip (xs k θ).toArray).foldl _ a.tmps = _
        rw [List.zip_toArray]
        simp
      let O := (hp (R0 .ready none) (η k t)).flatMap HA.ids
      let R := (hp (R0 .ready none) (η k t)).flatMap HA.rids
      let rs2 : Nat → Prop := fun r => r ∈ O ∨ r ∈ R ∨ r ∈ (hd k θ).flatMap HA.rids
      let X2 : Cx := ⟨N, O, Wy, Wy.heap.size, rs2, []⟩
      have hOC : ∀ i ∈ O, i ∈ C ∨ lo ≤ i := fun i hi => by
        obtain ⟨x, hx, hxi⟩ := List.mem_flatMap.1 hi
        exact hst.fr x hx i (HA.ids_frs hxi)
      have st2 : St X2 s (hp (R0 .ready none) (η k t)) a1 Wy :=
        ⟨hst.sz, rfl, hst.sl, Keep.refl _ _, hst.ok, ⟨Nat.le_refl _, Nat.le_refl _⟩, fun x hx c hc => ?_, hst.nd, hst.dj, hst.iv, fun x hx B hB => (by rw [hpn _ _ (hηn k t) x hx] at hB; cases hB), ⟨fun c hc => .inl hc, fun x hx r hr => .inl (.inr (.inl (List.mem_flatMap.2 ⟨x, hx, hr⟩)))⟩⟩
      case refine_1 =>
        refine .inl (List.mem_flatMap.2 ⟨x, hx, ?_⟩)
        rcases List.mem_cons.1 hx with rfl | hx
        · exact hc
        · rcases List.mem_cons.1 hx with rfl | hx
          · exact hc
          · rwa [plain_frs (List.all_eq_true.1 (hηn' k t) x hx)] at hc
      have stR : St X2 (slotsOf ps (xs k θ) ++ s) (hd k θ ++ hp (R0 .ready none) (η k t)) { tmps := (ps.zip (xs k θ)).foldl (fun (t : Array Value) (q : Nat × Value) => t.setIfInBounds q.1 q.2) a.tmps, defers := [] } Wy := by
        have h1 := st2.addrd (hd k θ) hdk (hdr k θ) (hpn _ _ (hηn k t)) hdO (fun x hx r hr => .inr (.inr (List.mem_flatMap.2 ⟨x, hx, hr⟩)))
        refine ⟨by rw [foldl_size]; exact hst.sz, rfl, slotsOf_spec ps (xs k θ) a.tmps s ?_ hst.sl, h1.kp, h1.ok, h1.ll, h1.fr, h1.nd, h1.dj, h1.iv, h1.ib, h1.rk⟩
        intro p' hp'
        have := List.all_eq_true.1 hpN p' hp'
        have h3 : p' < N := Nat.le_of_ble_eq_true this
        have h4 : a.tmps.size = N := hst.sz
        omega
      have hw := hround O Wy Wy.heap.size rs2 lI D m k t θ (R0 .ready none) rfl hk ht _ _ stR
      have hw2 : assign.wpIn (Fence.wide.inRound lI) m P (Exit.then (fun a₁ w₁ => ∃ w₂, (Instr.beginRound lI).run P w₁ = .ok () w₂ ∧ body.wpIn (Fence.wide.inRound lI) m P (roundPost P lI (YP J Jx k (hd k θ) O R Wy)) a₁ w₂) (fun _ _ _ => False)) { tmps := (ps.zip (xs k θ)).foldl (fun (t : Array Value) (q : Nat × Value) => t.setIfInBounds q.1 q.2) a.tmps, defers := [] } Wy := by
        refine wpIn_mono hw (fun e a2 w2 hq => ?_)
        cases e with
        | ret => exact hq.elim
        | exit i => obtain ⟨_, hj2, _⟩ := hq; cases hj2
        | goto _ => exact hq.elim
        | panic _ => exact hq.elim
        | outgrown => exact hq.elim
        | normal =>
          obtain ⟨w3, hb3, hbody⟩ := hq
          refine ⟨w3, hb3, wpIn_mono hbody (fun e a4 w4 hq4 => ?_)⟩
          have finish : ∀ (l' : List HA) (jump : Option Code) (r'' : Loop), St X2 [] (hp (R0 .busy none) l') a4 w4 → (r'' = { R0 .busy none with state := if jump.isNone then .ready else .done, pending := jump }) → (∀ x ∈ l', x.bs = none) →
              ∃ w', (Instr.endRound lI jump).run P w4 = .ok (.bool jump.isNone) w' ∧ St X1 s (hp r'' l') a1 w' ∧ (∀ i ∈ (hp r'' l').flatMap HA.ids, i ∈ O ∨ Wy.heap.size ≤ i) ∧ (∀ i ∈ (hp r'' l').flatMap HA.rids, i ∈ O ∨ i ∈ R ∨ i ∈ (hd k θ).flatMap HA.rids ∨ Wy.heap.size ≤ i) ∧ Keep O Wy w' := by
            intro l' jump r'' hst4 hr'' hl'
            have hl4 : w4.heap[lI]? = some (.loop (R0 .busy none)) := hst4.ok _ (List.mem_cons_self ..)
            refine ⟨_, run_endRound jump hl4, ?_⟩
            subst hr''
            have h5 := hst4.putobj (.loop { R0 .busy none with state := if jump.isNone then .ready else .done, pending := jump })
            have hid : ∀ x ∈ hp { R0 .busy none with state := if jump.isNone then .ready else .done, pending := jump } l', ∀ c ∈ x.frs, c ∈ O ∨ Wy.heap.size ≤ c := fun x hx c hc => h5.fr x hx c hc
            refine ⟨⟨hst.sz, rfl, hst.sl, hst.kp.trans h5.kp (fun i hi => (hOC i hi).imp id (fun h => Nat.le_trans st.ll.1 h)), h5.ok, ⟨st.ll.1, Nat.le_trans hst.ll.2 h5.kp.same.size⟩, fun x hx c hc => (hid x hx c hc).elim (fun h => hOC c h) (fun h => .inr (Nat.le_trans hst.ll.2 h)), h5.nd, h5.dj, fun x hx q hq => (by rw [os_of_bs (hpn _ _ hl' x hx)] at hq; cases hq), fun x hx B hB => (by rw [hpn _ _ hl' x hx] at hB; cases hB), ⟨hst.rk.1, fun x hx r hr => .inl (hrs r)⟩⟩, ?_, ?_, h5.kp⟩
            · intro i hi
              obtain ⟨x, hx, hxi⟩ := List.mem_flatMap.1 hi
              exact hid x hx i (HA.ids_frs hxi)
            · intro i hi
              obtain ⟨x, hx, hxi⟩ := List.mem_flatMap.1 hi
              rcases h5.rk.2 x hx i hxi with (h6 | h6 | h6) | h6
              · exact .inl h6
              · exact .inr (.inl h6)
              · exact .inr (.inr (.inl h6))
              · exact .inr (.inr (.inr h6))
          cases e with
          | normal =>
            obtain ⟨t', ht', hst4⟩ := hq4
            obtain ⟨w', hr, hst5, h6, h7, h8⟩ := finish _ none (R0 .ready none) hst4 rfl (hηn _ _)
            exact ⟨_, w', hr, _, _, h6, h7, h8, fun i hi => hlow hst5 i hi, .inl ⟨rfl, t', ht', hst5, rfl, rfl⟩⟩
          | ret =>
            obtain ⟨t', ht', hst4⟩ := hq4
            obtain ⟨w', hr, hst5, h6, h7, h8⟩ := finish _ (some .ret) (R0 .done (some .ret)) hst4 rfl (hηx _)
            exact ⟨_, w', hr, _, _, h6, h7, h8, fun i hi => hlow hst5 i hi, .inr ⟨rfl, t', ht', hst5, rfl, rfl⟩⟩
          | exit i => obtain ⟨_, hj2, _⟩ := hq4; cases hj2
          | goto _ => exact hq4.elim
          | panic _ => exact hq4.elim
          | outgrown => exact hq4.elim
      have e2 : (fun (tmps : Array Value) (x : Nat × Value) => match x with | (t, a) => tmps.setIfInBounds t a) = (fun (tmps : Array Value) (x : Nat × Value) => tmps.setIfInBounds x.1 x.2) := rfl
      rw [← hzip] at hw2
      exact hw2
    · rintro e W3 ⟨⟨v, rfl⟩, O', R', hJ⟩
      rcases hJ with ⟨t, ht, hst, -, -⟩ | ⟨t, ht, hst, -, -⟩
      · have hl3 : W3.heap[lI]? = some (.loop (R0 .ready none)) := hst.ok _ (List.mem_cons_self ..)
        have hr := run_endLoop (P := P) hl3 (by simp [R0])
        refine ⟨none, _, hr, ?_⟩
        have h5 := hst.putobj (.loop { R0 .ready none with state := .exhausted })
        have h6 : St X1 s (.obj D (.deferred (some [])) :: η nv t) a1 _ := St.drop (out := [_]) h5
        exact hdone D t ht _ _ ⟨h6.sz, by show _ ++ _ = _; rw [st.df]; rfl, h6.sl, h6.kp, h6.ok, h6.ll, h6.fr, h6.nd, h6.dj, h6.iv, h6.ib, h6.rk⟩
      · have hl3 : W3.heap[lI]? = some (.loop (R0 .done (some (.ret)))) := hst.ok _ (List.mem_cons_self ..)
        have hr := run_endLoop (P := P) hl3 (by simp [R0])
        refine ⟨some (.ret), _, hr, ?_⟩
        have h5 := hst.putobj (.loop { R0 .done (some (.ret)) with state := .exhausted })
        have h6 : St X1 s (.obj D (.deferred (some [])) :: ηx t) a1 _ := St.drop (out := [_]) h5
        exact hstop D t ht _ _ ⟨h6.sz, by show _ ++ _ = _; rw [st.df]; rfl, h6.sl, h6.kp, h6.ok, h6.ll, h6.fr, h6.nd, h6.dj, h6.iv, h6.ib, h6.rk⟩
/-- Results that both lie in cells. -/
theorem rescc {P : Program} {s : List (Nat × Value)} {h : List HA} {fn : Func} {p u g g2 : Nat} {ty ty2 e1 e2 : TypeId} {v v2 : Value} {td td2 : TypeDesc} (i j : Nat) (hi : h[i]? = some (.blk g e1 [v])) (hj : h[j]? = some (.blk g2 e2 [v2])) (hr : fn.results = #[.cell p ty, .cell u ty2]) (hp : s.lookup p = some (.pointer (some ⟨g, 0, none⟩))) (hu : s.lookup u = some (.pointer (some ⟨g2, 0, none⟩)))
    (ht : P.underlying ty = some td) (hn : isAggT td = false) (ht2 : P.underlying ty2 = some td2) (hn2 : isAggT td2 = false) : ResV P fn s h (.tuple #[v, v2]) := fun tmps hs w hw => by
  have hb : w.heap[g]? = some (.cells #[v] e1 (0, 0)) := hw _ (List.mem_of_getElem? hi)
  have hb2 : w.heap[g2]? = some (.cells #[v2] e2 (0, 0)) := hw _ (List.mem_of_getElem? hj)
  have h1 : tmps[p]?.getD undef = .pointer (some ⟨g, 0, none⟩) := by simp [hs p _ hp]
  have h2 : tmps[u]?.getD undef = .pointer (some ⟨g2, 0, none⟩) := by simp [hs u _ hu]
  have l1 : (loadVar ty ⟨g, 0, none⟩).run P w = .ok v w := by
    have hagg : (isAgg ty).run P w = .ok false w := by unfold isAgg; rw [Sem.run_bind, run_underlying ht w]; cases td <;> simp_all [isAggT]
    simp only [loadVar, Sem.run_bind, hagg, Result.andThen_ok]
    simp [World.cell?, hb]
  have l2 : (loadVar ty2 ⟨g2, 0, none⟩).run P w = .ok v2 w := by
    have hagg : (isAgg ty2).run P w = .ok false w := by unfold isAgg; rw [Sem.run_bind, run_underlying ht2 w]; cases td2 <;> simp_all [isAggT]
    simp only [loadVar, Sem.run_bind, hagg, Result.andThen_ok]
    simp [World.cell?, hb2]
  simp [results, hr, h1, h2, asAddr, l1, l2]
end Go.Proofs.YtlplpmkdebemnaaDoor.Fw
