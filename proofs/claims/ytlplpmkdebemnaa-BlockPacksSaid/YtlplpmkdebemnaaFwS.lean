/- Texts of bytes, and what shares its bytes with one, by facts. No conditions. -/
import Derived.Test.YtlplpmkdebemnaaFwR
import Derived.Lib.SlBytesConst
import Derived.Test.YtlplpmkdebemnaaArrEq
import Derived.WalkSpells
namespace Go.Proofs.Ytlplpmkdebemnaa.Fw
set_option linter.unusedVariables false
set_option linter.unusedSimpArgs false
open Go.RowKit Bv
/-- The text of some bytes. -/
def sob (xs : List (BitVec 8)) : ByteArray := ⟨(xs.map fun b => (⟨b⟩ : UInt8)).toArray⟩
theorem sob_inj {xs ys : List (BitVec 8)} (h : sob xs = sob ys) : xs = ys := by
  have h2 : (xs.map fun b => (⟨b⟩ : UInt8)) = (ys.map fun b => (⟨b⟩ : UInt8)) := by
    have := congrArg (fun s : ByteArray => s.data.toList) h
    simpa [sob] using this
  have h3 := congrArg (List.map UInt8.toBitVec) h2
  rw [List.map_map, List.map_map, show (UInt8.toBitVec ∘ fun b : BitVec 8 => (⟨b⟩ : UInt8)) = id from rfl, List.map_id, List.map_id] at h3
  exact h3
theorem ba_inj {a b : ByteArray} (h : a.data.toList = b.data.toList) : a = b := by
  cases a; cases b; simp at h; rw [h]
theorem sob_beq (xs ys : List (BitVec 8)) : ((sob xs).toList == (sob ys).toList) = decide (xs = ys) := by
  rw [ByteArray.toList_eq, ByteArray.toList_eq, Bool.eq_iff_iff, beq_iff_eq, decide_eq_true_eq]
  exact ⟨fun h => sob_inj (ba_inj h), fun h => by rw [h]⟩
theorem rd_of_rdv {w : World} {A : Option Addr} {n c : Nat} {xs : List (BitVec 8)} (h : RdV w A 1 n c (xs.map b8)) : Rd b8 w A n c xs :=
  ⟨by have := h.len; simpa using this, h.le, h.most, h.isn, fun ad e j hj => h.cells ad e j _ (by
    have hl : j < xs.length := by have := h.len; simp at this; omega
    rw [List.getElem?_map, List.getElem?_eq_getElem hl, ath_get xs j hl]; rfl)⟩
theorem rdv_of_rd {w : World} {A : Option Addr} {n c : Nat} {xs : List (BitVec 8)} (h : Rd b8 w A n c xs) : RdV w A 1 n c (xs.map b8) :=
  ⟨by simp [h.len], h.le, h.most, h.isn, fun ad e j v hj => by
    have hl : j < xs.length := by have := (List.getElem?_eq_some_iff.1 hj).1; simpa using this
    rw [h.cells ad e j (by rw [← h.len]; exact hl)]
    rw [List.getElem?_map, List.getElem?_eq_getElem hl, ← ath_get xs j hl] at hj
    simpa using hj⟩
section
variable {P : Program} {X : Cx} {s : List (Nat × Value)} {h : List HA} {a : Act} {w : World} {o : Oper} {K K0 : Jd} {v : Value}
theorem run_cbs (w : World) (src e dst : TypeId) (hs : P.underlying src = some (.slice e)) (he : P.underlying e = some (.int .u8)) (hd : P.underlying dst = some .string)
    {A : Option Addr} {n c : Nat} {xs : List (BitVec 8)} (h : RdV w A 1 n c (xs.map b8)) : (convert src dst (.slice A n c)).run P w = .ok (.string (sob xs)) w := by
  cases A with
  | none =>
    have := h.isn rfl
    have hn : n = 0 := by have := h.le; omega
    subst hn
    have : xs = [] := List.eq_nil_of_length_eq_zero (by have := h.len; simpa using this)
    subst this
    exact run_convert_bytes_nil w src e hs he 0 c dst hd
  | some ad =>
    have hl : (loadCells ad n).run P w = .ok ((xs.map n8).map (Value.int .u8)).toArray w := by
      have h2 := run_loadCells_list (P := P) w ad (xs.map b8) (fun j v hj => h.cells ad rfl j v hj)
      have h3 : (xs.map b8).length = n := by have := h.len; simpa using this
      rw [h3] at h2
      simpa [List.map_map, Function.comp_def] using h2
    rw [run_convert_bytes_string w src dst e _ n c hs he hd, run_bytesToString w _ n c _ hl, foldl_push_bytes]
    have hf : ((fun n => UInt8.ofNat n.toNat) ∘ n8) = fun b : BitVec 8 => (⟨b⟩ : UInt8) := by
      funext b; simp [n8]
    simp only [sob, ByteArray.empty, ByteArray.emptyWithCapacity, List.map_map, hf]
    simp
    rfl
theorem ld_str {A : Option Addr} {n c : Nat} {xs : List (BitVec 8)} {x : Operand} {src dst e : TypeId} (hs : Src h A 1 n c (xs.map b8)) (h1 : P.underlying src = some (.slice e)) (h2 : P.underlying e = some (.int .u8)) (h3 : P.underlying dst = some .string) (ho : o.op = .convert src dst x) (hx : ev s x = some (.slice A n c)) : Ld P s h o (.string (sob xs)) := fun e' he w hw => by
  unfold execOp; rw [ho]
  simp only [he _ _ hx]
  rw [Sem.run_bind, run_cbs w src e dst h1 h2 h3 (hs w hw).1]; rfl
theorem pr_streq {t t2 : TypeId} {x y : Operand} {xs ys : List (BitVec 8)} (ho : o.op = .binOp .eql t x y t2) (hx : ev s x = some (.string (sob xs))) (hy : ev s y = some (.string (sob ys))) : Pr P s h o (.bool (decide (xs = ys))) := fun e he w hw w' => by
  have hb := sob_beq xs ys
  unfold execOp; rw [ho]
  simp only [he _ _ hx, he _ _ hy]
  have hg : (eqGuard .eql t x y (.string (sob xs)) (.string (sob ys))).run P w' = .ok () w' := by unfold eqGuard; simp
  rw [Sem.run_bind, Sem.run_bind, hg]
  simp [binOp, Op.stringOp, hb]
theorem pr_strne {t t2 : TypeId} {x y : Operand} {xs ys : List (BitVec 8)} (ho : o.op = .binOp .neq t x y t2) (hx : ev s x = some (.string (sob xs))) (hy : ev s y = some (.string (sob ys))) : Pr P s h o (.bool (!decide (xs = ys))) := fun e he w hw w' => by
  have hb := sob_beq xs ys
  unfold execOp; rw [ho]
  simp only [he _ _ hx, he _ _ hy]
  have hg : (eqGuard .neq t x y (.string (sob xs)) (.string (sob ys))).run P w' = .ok () w' := by unfold eqGuard; simp
  rw [Sem.run_bind, Sem.run_bind, hg]
  simp [binOp, Op.stringOp, bne, hb]
/-- A row that a text's bytes lie in: nobody writes it. -/
theorem op_mark {d : Nat} {t e e2 : TypeId} {x : Operand} {g n c : Nat} {cs zs : List Value} (i : Nat) (hi : h[i]? = some (.blk g e2 cs)) (ht : P.underlying t = some (.slice e)) (he : P.underlying e = some (.int .u8)) (hnc : n ≤ c) (hc : c ≤ 9223372036854775807) (hl : zs.length = n) (hz : cs.take n = zs)
    (ho : o.op = .convert t t x) (hx : ev s x = some (.slice (some ⟨g, 0, none⟩) n c)) (hd : o.dst = some d) (hN : Nat.blt d X.N = true)
    (hh : Tr X ((d, .slice (some ⟨g, 0, none⟩) n c) :: s) (.old (some ⟨g, 0, none⟩) 1 n c zs :: h.eraseIdx i) K) : Tr X s h (Op P o K K0) := fun a w st => by
  have hb : w.heap[g]? = some (.cells cs.toArray e2 (0, 0)) := st.ok _ (List.mem_of_getElem? hi)
  have hlt := (Array.getElem?_eq_some_iff.1 hb).1
  have hr : (execOp a.eval o).run P w = .ok (.value (.slice (some ⟨g, 0, none⟩) n c)) (w.freeze ⟨g, cs.length, none⟩ 1) := by
    unfold execOp; rw [ho]
    simp [st.ag _ _ hx, convert, run_underlying ht, run_underlying he, markStringish, shape, freeze, Sem.run, World.shape?, hb]
  have hf : (w.freeze ⟨g, cs.length, none⟩ 1).heap[g]? = some (.cells cs.toArray e2 (cs.length, cs.length + 1)) := by
    simp [World.freeze, Array.getElem?_modify, hb]
  have hcell : ∀ ad : Addr, ad.block = g → (w.freeze ⟨g, cs.length, none⟩ 1).cell? ad = w.cell? ad := by
    intro ad had; simp [World.cell?, had, hf, hb]
  have hrd := rdv_blk (w := w) (g := g) (m := 0) (z := 1) (n := n) (c := c) (ds := zs) hb (by simpa using hl) (by simpa using hz) hnc hc
  refine op_val hr ?_
  rw [hd]
  refine hh _ _ (st.swapv [.blk g e2 cs] (h.eraseIdx i) [.old (some ⟨g, 0, none⟩) 1 n c zs] (perm_erase h i _ hi) hN _ ⟨⟨rfl, rfl, rfl, by simp [World.freeze]⟩, fun k _ hk => ?_⟩ ?_ ?_ ?_ ?_)
  · simp only [World.freeze, if_neg (show ¬ (1 = 0) by omega), Array.getElem?_modify]
    rw [if_neg (fun e => hk (by simp [HA.ids, e]))]
  · intro x hx; rw [List.mem_singleton] at hx; subst hx
    refine ⟨⟨hrd.len, hrd.le, hrd.most, hrd.isn, fun ad e j v hj => ?_⟩, fun ad e => ?_⟩
    · rw [hcell _ (by rw [add_block]; cases e; rfl)]; exact hrd.cells ad e j v hj
    · cases e; intro _; simpa [World.freeze] using hlt
  · intro x hx k hk; rw [List.mem_singleton] at hx; subst hx; exact .inl (by obtain ⟨_, ad, e1, h2⟩ := mem_rid.1 hk; cases e1; simp [HA.ids, ← h2])
  · simp [HA.ids]
  · intro x hx r hr; rw [List.mem_singleton] at hx; subst hx; exact ⟨hr, by intro y hy; rw [List.mem_singleton] at hy; subst hy; simp [HA.ids]⟩
theorem src_take {A : Option Addr} {z n m c : Nat} {cs : List Value} (hs : Src h A z m c cs) (hn : n ≤ m) : Src h A z n c (cs.take (n * z)) := fun w hw => by
  obtain ⟨hr, hb⟩ := hs w hw
  refine ⟨⟨?_, Nat.le_trans hn hr.le, hr.most, hr.isn, fun ad e j v hj => hr.cells ad e j v ?_⟩, hb⟩
  · rw [List.length_take, hr.len]
    have : n * z ≤ m * z := Nat.mul_le_mul_right z hn
    omega
  · rw [List.getElem?_take] at hj
    split at hj
    · exact hj
    · cases hj
theorem src_take8 {A : Option Addr} {n m c : Nat} {β : Type} {f : β → Value} {xs : List β} (hs : Src h A 1 m c (xs.map f)) (hn : n ≤ m) : Src h A 1 n c ((xs.take n).map f) := by
  have := src_take (n := n) hs hn
  rwa [Nat.mul_one, ← List.map_take] at this
/-- Two arrays or structs held against each other. -/
theorem pr_eqagg {bo : BinOp} {ty ty2 : TypeId} {x y : Operand} {xs ys : List Value} {c r : Bool} (hr : ∀ d w, (Op.equalIn (d + 2) ty (.agg xs.toArray) (.agg ys.toArray)).run P w = .ok c w) (hg : Program.eqGuardType P (Program.depth P) ty = false) (hb : (match bo with | .eql => c | .neq => !c | _ => r) = r) (hbo : (bo == .eql || bo == .neq) = true)
    (ho : o.op = .binOp bo ty x y ty2) (hx : ev s x = some (.agg xs.toArray)) (hy : ev s y = some (.agg ys.toArray)) : Pr P s h o (.bool r) := fun e he w hw w' => by
  unfold execOp
  simp only [ho, he _ _ hx, he _ _ hy, Sem.run_bind, run_eqGuard_agg w' _ _ _ _ _ _ hg, Result.andThen_ok]
  have h1 := hr 9998 w'
  cases bo <;> first
    | (cases hbo; done)
    | (simp only at hb; subst hb; rw [run_eql_struct, h1]; rfl)
    | (simp only at hb; subst hb; rw [run_neq_struct, h1]; rfl)
theorem eqb8 {ty e : TypeId} {n : Nat} {xs ys : List (BitVec 8)} (ht : P.underlying ty = some (.array n e)) (he : P.underlying e = some (.int .u8)) (hs : (P.info? e).map (·.size) = some 1) (hx : xs.length = n) (hy : ys.length = n) : ∀ d w, (Op.equalIn (d + 2) ty (.agg (xs.map b8).toArray) (.agg (ys.map b8).toArray)).run P w = .ok (xs == ys) w :=
  fun d w => run_equalIn_arr w d ty e n xs ys ht he hs hx hy
/-- Numbers of one kind. -/
theorem no_i64 {a b : Nat} (ha : a < 9223372036854775808) (hb : b < 9223372036854775808) : Op.intBits .or .i64 (a : Int) (b : Int) = pure (.int .i64 ((a ||| b : Nat) : Int)) := by
  show (pure (Value.int .i64 (IntKind.i64.wrap ((BitVec.ofInt 64 (a : Int) ||| BitVec.ofInt 64 (b : Int)).toNat : Int))) : Sem Value) = _
  have h1 : (BitVec.ofInt 64 (a : Int) ||| BitVec.ofInt 64 (b : Int)).toNat = a ||| b := by
    rw [BitVec.toNat_or, BitVec.ofInt_natCast, BitVec.ofInt_natCast, BitVec.toNat_ofNat, BitVec.toNat_ofNat, Nat.mod_eq_of_lt (by omega), Nat.mod_eq_of_lt (by omega)]
  have h2 : a ||| b < 2 ^ 63 := Nat.or_lt_two_pow (by simpa using ha) (by simpa using hb)
  rw [h1]
  have h3 : IntKind.i64.wrap ((a ||| b : Nat) : Int) = ((a ||| b : Nat) : Int) := by generalize a ||| b = q at h2; rw [IntKind.wrap_i64]; omega
  rw [h3]
theorem nsh_i64 {a m : Nat} (h : a * 2 ^ m ≤ 9223372036854775807) (hm : m < 64) : Op.shift .shl .i64 (a : Int) .u64 (m : Int) = pure (.int .i64 ((a * 2 ^ m : Nat) : Int)) := by
  unfold Op.shift
  have h0 : ¬ ((m : Int) < 0) := by omega
  have h1 : min ((m : Int)).toNat (IntKind.bits .i64) = m := by simp [IntKind.bits]; omega
  simp only [h0, if_false, h1]
  have h2 : (a : Int) * 2 ^ m = ((a * 2 ^ m : Nat) : Int) := by simp
  rw [h2]
  have h3 : IntKind.i64.wrap ((a * 2 ^ m : Nat) : Int) = ((a * 2 ^ m : Nat) : Int) := by generalize a * 2 ^ m = q at h; rw [IntKind.wrap_i64]; omega
  rw [h3]
end
end Go.Proofs.Ytlplpmkdebemnaa.Fw
