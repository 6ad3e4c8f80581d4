/- Walks by facts, part 3: what the functions that the law reaches answer. No conditions but lengths. -/
import Derived.Test.YtlplpmkdebemnaaZLetterFrom2
import Derived.Laws.StructEq
import Derived.Test.YtlplpmkdebemnaaProg
namespace Go.Proofs.Ytlplpmkdebemnaa.Fw
set_option linter.unusedVariables false
set_option linter.unusedSimpArgs false
open Go.RowKit Bv
variable {P : Program} {X : Cx} {s : List (Nat × Value)} {h : List HA} {o : Oper} {K K0 J : Jd}
/-- A row that holds something, as the block that it stands in. -/
theorem T_unrow (i : Nat) {A : Option Addr} {e : TypeId} {z n c : Nat} {zs : List Value} (hi : h[i]? = some (.row (.slice A n c) e z n zs)) (hn : 0 < n) (hh : ∀ g cs, A = some ⟨g, 0, none⟩ → cs.length = c * z → cs.take (n * z) = zs → n ≤ c → c ≤ 9223372036854775807 → Tr X s (.blk g e cs :: h.eraseIdx i) J) : Tr X s h J := fun a w st => by
  obtain ⟨hl, h1 | ⟨g, cap, cur, hv, _, hb, hnc, hcm, hcl, hz⟩⟩ := st.ok _ (List.mem_of_getElem? hi)
  · obtain ⟨h2, h3⟩ := h1; omega
  · cases hv
    refine hh g cur.toList rfl (by simpa using hcl) hz hnc (by unfold maxLen at hcm; omega) a w ?_
    refine st.swap [.row (.slice (some ⟨g, 0, none⟩) n c) e z n zs] (h.eraseIdx i) [_] (perm_erase h i _ hi) st.sz st.df st.sl (Keep.refl _ _) ?_ ?_ ?_ ?_
    · intro x hx; rw [List.mem_singleton] at hx; subst hx
      show w.heap[g]? = _
      simpa using hb
    · intro x hx k hk; rw [List.mem_singleton] at hx; subst hx; exact .inl (by simpa [HA.ids, HA.frs, Value.ownBlock] using hk)
    · simp [HA.ids]
    · intro x hx r hr; rw [List.mem_singleton] at hx; subst hx; cases hr
theorem op_store_row {ty e : TypeId} {x y : Operand} {A : Option Addr} {n c m : Nat} {xs : List (BitVec 8)} {v : BitVec 8} (i : Nat) (hi : h[i]? = some (.row (.slice A n c) e 1 n (xs.map b8))) (hm : m < n) (hz : (P.info? ty).map (·.size) = some 1)
    (ho : o.op = .store ty x y) (hx : ev s x = some (.pointer (some ((adr A).add m)))) (hy : ev s y = some (b8 v)) (hd : o.dst = none) (hh : Tr X s (.row (.slice A n c) e 1 n ((xs.set m v).map b8) :: h.eraseIdx i) K) : Tr X s h (Op P o K K0) := by
  refine T_unrow i hi (by omega) (fun g cs hA hl ht hnc hc => ?_)
  subst hA
  have hx' : ev s x = some (.pointer (some ⟨g, m, none⟩)) := by
    rw [hx]; simp [adr, Addr.add]; omega
  refine op_store (vs := [b8 v]) (cs' := cs.set m (b8 v)) 0 rfl rfl hz (one_one rfl) (by simp; omega) (splice_set (by omega)) ho hx' hy hd ?_
  refine T_rowb 0 (zs := (xs.set m v).map b8) 1 n c rfl hnc hc (by simpa using hl) ?_ hh
  rw [Nat.mul_one] at ht ⊢
  rw [List.map_set, ← ht, List.take_set]
end Go.Proofs.Ytlplpmkdebemnaa.Fw
namespace Go.Proofs.Ytlplpmkdebemnaa.Fw
set_option linter.unusedVariables false
set_option linter.unusedSimpArgs false
open Go.RowKit Bv
section
variable {P : Program} {X : Cx} {s : List (Nat × Value)} {h : List HA} {o : Oper} {K K0 J : Jd}
/-- The address of a field. -/
theorem pr_fa {x : Operand} {t : TypeId} {fs : Array Field} {f : Field} {i g m m' z : Nat} (hm : m + f.offset = m') (ht : P.underlying t = some (.struct fs)) (hf : fs[i]? = some f) (hz : (P.info? f.type).map (·.size) = some (z + 1)) (ho : o.op = .fieldAddr t x i) (hx : ev s x = some (.pointer (some ⟨g, m, none⟩))) :
    Pr P s h o (.pointer (some ⟨g, m', none⟩)) := fun e he w hw w' => by
  subst hm
  unfold execOp; rw [ho]
  simp [he _ _ hx, Instr.fieldAt, Instr.sureAddr, run_underlying ht, hf, fieldPlace, run_sizeOf hz, Addr.add_lit]
theorem pr_eqs {bo : BinOp} {ty ty2 : TypeId} {x y : Operand} {xs ys : List Value} {c r : Bool} (hr : ∀ d w, (Op.equalIn (d + 3) ty (.agg xs.toArray) (.agg ys.toArray)).run P w = .ok c w) (hg : Program.eqGuardType P (Program.depth P) ty = false) (hb : (match bo with | .eql => c | .neq => !c | _ => r) = r) (hbo : (bo == .eql || bo == .neq) = true)
    (ho : o.op = .binOp bo ty x y ty2) (hx : ev s x = some (.agg xs.toArray)) (hy : ev s y = some (.agg ys.toArray)) : Pr P s h o (.bool r) := fun e he w hw w' => by
  unfold execOp
  simp only [ho, he _ _ hx, he _ _ hy, Sem.run_bind, run_eqGuard_agg w' _ _ _ _ _ _ hg, Result.andThen_ok]
  have h1 := hr 9997 w'
  cases bo <;> first
    | (cases hbo; done)
    | (simp only at hb; subst hb; rw [run_eql_struct, h1]; rfl)
    | (simp only at hb; subst hb; rw [run_neq_struct, h1]; rfl)
section
variable {w : World} {d : Nat} {t : TypeId} {xs ys : List Value}
theorem eqs {fs : Array Field} {r : Bool} (ht : P.underlying t = some (.struct fs)) (hp : P.stoodInHeld t = false) (h : (Op.eqFields d xs.toArray ys.toArray fs.toList).run P w = .ok r w) : (Op.equalIn (d + 1) t (.agg xs.toArray) (.agg ys.toArray)).run P w = .ok r w := by
  have e : P.fieldsOf t = fs := by unfold Program.fieldsOf; rw [ht]
  rw [run_equalIn_struct w d t _ _ (by rw [e]; exact ht) hp, e]; exact h
theorem eqf_nil : (Op.eqFields d xs.toArray ys.toArray []).run P w = .ok true w := by simp [Op.eqFields]
theorem eqf {f : Field} {fs : List Field} {a b : Value} {c r : Bool} (hn : (f.name != "_") = true) (ha : (part f.type xs.toArray f.offset).run P w = .ok a w) (hb : (part f.type ys.toArray f.offset).run P w = .ok b w) (he : (Op.equalIn d f.type a b).run P w = .ok c w) (hr : (Op.eqFields d xs.toArray ys.toArray fs).run P w = .ok r w) :
    (Op.eqFields d xs.toArray ys.toArray (f :: fs)).run P w = .ok (c && r) w := by
  unfold Op.eqFields
  rw [if_pos (by simpa using hn)]
  simp only [Sem.run_bind, ha, hb, he, Result.andThen_ok]
  cases c <;> simp [hr]
/-- A field that both have alike. -/
theorem eqt {f : Field} {fs : List Field} {a b : Value} {r : Bool} (hn : (f.name != "_") = true) (ha : (part f.type xs.toArray f.offset).run P w = .ok a w) (hb : (part f.type ys.toArray f.offset).run P w = .ok b w) (he : (Op.equalIn d f.type a b).run P w = .ok true w) (hr : (Op.eqFields d xs.toArray ys.toArray fs).run P w = .ok r w) :
    (Op.eqFields d xs.toArray ys.toArray (f :: fs)).run P w = .ok r w := eqf hn ha hb he hr
theorem part1 {td : TypeDesc} {v : Value} {off : Nat} (ht : P.underlying t = some td) (hn : isAggT td = false) (hx : xs[off]? = some v) : (part t xs.toArray off).run P w = .ok v w := by
  unfold part isAgg
  simp only [Sem.run_bind, run_underlying ht, Result.andThen_ok]
  cases td <;> simp_all [isAggT]
theorem partA {td : TypeDesc} {zs : List Value} {off n : Nat} (ht : P.underlying t = some td) (hn : isAggT td = true) (hz : (P.info? t).map (·.size) = some n) (hx : (xs.drop off).take n = zs) : (part t xs.toArray off).run P w = .ok (.agg zs.toArray) w := by
  unfold part isAgg
  simp only [Sem.run_bind, run_underlying ht, Result.andThen_ok]
  cases td <;> simp_all [isAggT, run_sizeOf hz]
theorem eqv_i {k k' : IntKind} {a b : Int} (ht : P.underlying t = some (.int k')) : (Op.equalIn (d + 1) t (.int k a) (.int k b)).run P w = .ok (a == b) w := run_equalIn_int w d t k k' a b ht
theorem eqv_n {k k' : IntKind} {a b : Nat} (ht : P.underlying t = some (.int k')) : (Op.equalIn (d + 1) t (.int k (a : Int)) (.int k (b : Int))).run P w = .ok (a == b) w := by
  rw [run_equalIn_int w d t k k' _ _ ht]
  have : (((a : Nat) : Int) == ((b : Nat) : Int)) = (a == b) := by rw [Bool.eq_iff_iff, beq_iff_eq, beq_iff_eq]; omega
  rw [this]
theorem eqv_8 {k' : IntKind} {a b : BitVec 8} (ht : P.underlying t = some (.int k')) : (Op.equalIn (d + 1) t (b8 a) (b8 b)).run P w = .ok (a == b) w := by
  rw [b8, b8, run_equalIn_int w d t _ k' _ _ ht, n8_beq]
theorem eqv_64 {k' : IntKind} {a b : BitVec 64} (ht : P.underlying t = some (.int k')) : (Op.equalIn (d + 1) t (b64 a) (b64 b)).run P w = .ok (a == b) w := by
  rw [b64, b64, run_equalIn_int w d t _ k' _ _ ht, n64_beq]
theorem eqv_b {a b : Bool} (ht : P.underlying t = some .bool) : (Op.equalIn (d + 1) t (.bool a) (.bool b)).run P w = .ok (a == b) w := run_equalIn_bool w d t a b ht
theorem eqv_si {k k' : IntKind} {a : Int} (ht : P.underlying t = some (.int k')) : (Op.equalIn (d + 1) t (.int k a) (.int k a)).run P w = .ok true w := by
  rw [run_equalIn_int w d t k k' a a ht]; simp
theorem eqv_sb {a : Bool} (ht : P.underlying t = some .bool) : (Op.equalIn (d + 1) t (.bool a) (.bool a)).run P w = .ok true w := by
  rw [run_equalIn_bool w d t a a ht]; simp
/-- Two arrays of two numbers. -/
theorem eqv_a2 {e : TypeId} {k' : IntKind} {a b a' b' : BitVec 64} (ht : P.underlying t = some (.array 2 e)) (he : P.underlying e = some (.int k')) (hz : (P.info? e).map (·.size) = some 1) :
    (Op.equalIn (d + 2) t (.agg [b64 a, b64 b].toArray) (.agg [b64 a', b64 b'].toArray)).run P w = .ok ((a == a') && (b == b')) w := by
  have p : ∀ (zs : List Value) v i, zs[i]? = some v → (part e zs.toArray i).run P w = .ok v w := fun zs v i hx => part1 he rfl hx
  have e1 := eqv_64 (P := P) (w := w) (d := d) (a := a) (b := a') he
  have e2 := eqv_64 (P := P) (w := w) (d := d) (a := b) (b := b') he
  have p0 := p [b64 a, b64 b] (b64 a) 0 rfl
  have p1 := p [b64 a, b64 b] (b64 b) 1 rfl
  have q0 := p [b64 a', b64 b'] (b64 a') 0 rfl
  have q1 := p [b64 a', b64 b'] (b64 b') 1 rfl
  generalize (a == a') = c1 at e1 ⊢
  generalize (b == b') = c2 at e2 ⊢
  rw [Op.equalIn]
  simp only [Sem.run_bind, run_underlying ht, Result.andThen_ok, run_sizeOf hz, Std.Legacy.Range.forIn_eq_forIn_range', Std.Legacy.Range.size, List.range'_succ, List.range', List.forIn_cons, List.forIn_nil, Nat.reduceAdd, Nat.reduceSub, Nat.reduceDiv, Nat.mul_one, Nat.zero_mul, p0, p1, q0, q1, e1, e2]
  cases c1 <;> cases c2 <;> simp [p1, q1, e2]
theorem eqv_sa2 {e : TypeId} {k' : IntKind} {a b : BitVec 64} (ht : P.underlying t = some (.array 2 e)) (he : P.underlying e = some (.int k')) (hz : (P.info? e).map (·.size) = some 1) :
    (Op.equalIn (d + 2) t (.agg [b64 a, b64 b].toArray) (.agg [b64 a, b64 b].toArray)).run P w = .ok true w := by
  have h := eqv_a2 (P := P) (w := w) (d := d) (a := a) (b := b) (a' := a) (b' := b) ht he hz
  simpa using h
end
/-- Results of which the first lies in memory. -/
theorem resct {fn : Func} {p u : Nat} {ty : TypeId} {g : Nat} {e' : TypeId} {cs : List Value} {td : TypeDesc} {v : Value} (i : Nat) (hi : h[i]? = some (.blk g e' cs)) (hr : fn.results = #[.cell p ty, .tmp u]) (hp : s.lookup p = some (.pointer (some ⟨g, 0, none⟩))) (ht : P.underlying ty = some td) (hn : isAggT td = true) (hz : (P.info? ty).map (·.size) = some cs.length) (hv : s.lookup u = some v) :
    ResV P fn s h (.tuple #[.agg cs.toArray, v]) := fun tmps hs w hw => by
  have hb : w.heap[g]? = some (.cells cs.toArray e' (0, 0)) := hw _ (List.mem_of_getElem? hi)
  have h1 : tmps[p]?.getD undef = .pointer (some ⟨g, 0, none⟩) := by simp [hs p _ hp]
  have h2 : tmps[u]?.getD undef = v := by simp [hs u _ hv]
  have h3 := run_loadVar_row (P := P) w g e' ty cs.toArray (0, 0) td hb ht (by cases td <;> first | (cases hn; done) | rfl) (by simpa using hz)
  simp [results, hr, h1, h2, asAddr, h3]
theorem resctt {fn : Func} {p u u2 : Nat} {ty : TypeId} {g : Nat} {e' : TypeId} {cs : List Value} {td : TypeDesc} {v v2 : Value} (i : Nat) (hi : h[i]? = some (.blk g e' cs)) (hr : fn.results = #[.cell p ty, .tmp u, .tmp u2]) (hp : s.lookup p = some (.pointer (some ⟨g, 0, none⟩))) (ht : P.underlying ty = some td) (hn : isAggT td = true) (hz : (P.info? ty).map (·.size) = some cs.length) (hv : s.lookup u = some v) (hv2 : s.lookup u2 = some v2) :
    ResV P fn s h (.tuple #[.agg cs.toArray, v, v2]) := fun tmps hs w hw => by
  have hb : w.heap[g]? = some (.cells cs.toArray e' (0, 0)) := hw _ (List.mem_of_getElem? hi)
  have h1 : tmps[p]?.getD undef = .pointer (some ⟨g, 0, none⟩) := by simp [hs p _ hp]
  have h2 : tmps[u]?.getD undef = v := by simp [hs u _ hv]
  have h4 : tmps[u2]?.getD undef = v2 := by simp [hs u2 _ hv2]
  have h3 := run_loadVar_row (P := P) w g e' ty cs.toArray (0, 0) td hb ht (by cases td <;> first | (cases hn; done) | rfl) (by simpa using hz)
  simp [results, hr, h1, h2, h4, asAddr, h3]
theorem rescttt {fn : Func} {p u u2 u3 : Nat} {ty : TypeId} {g : Nat} {e' : TypeId} {cs : List Value} {td : TypeDesc} {v v2 v3 : Value} (i : Nat) (hi : h[i]? = some (.blk g e' cs)) (hr : fn.results = #[.cell p ty, .tmp u, .tmp u2, .tmp u3]) (hp : s.lookup p = some (.pointer (some ⟨g, 0, none⟩))) (ht : P.underlying ty = some td) (hn : isAggT td = true) (hz : (P.info? ty).map (·.size) = some cs.length) (hv : s.lookup u = some v) (hv2 : s.lookup u2 = some v2) (hv3 : s.lookup u3 = some v3) :
    ResV P fn s h (.tuple #[.agg cs.toArray, v, v2, v3]) := fun tmps hs w hw => by
  have hb : w.heap[g]? = some (.cells cs.toArray e' (0, 0)) := hw _ (List.mem_of_getElem? hi)
  have h1 : tmps[p]?.getD undef = .pointer (some ⟨g, 0, none⟩) := by simp [hs p _ hp]
  have h2 : tmps[u]?.getD undef = v := by simp [hs u _ hv]
  have h4 : tmps[u2]?.getD undef = v2 := by simp [hs u2 _ hv2]
  have h5 : tmps[u3]?.getD undef = v3 := by simp [hs u3 _ hv3]
  have h3 := run_loadVar_row (P := P) w g e' ty cs.toArray (0, 0) td hb ht (by cases td <;> first | (cases hn; done) | rfl) (by simpa using hz)
  simp [results, hr, h1, h2, h4, h5, asAddr, h3]
end
end Go.Proofs.Ytlplpmkdebemnaa.Fw
namespace Go.Proofs.Ytlplpmkdebemnaa
set_option linter.unusedVariables false
set_option linter.unusedSimpArgs false
set_option linter.unnecessarySimpa false
set_option maxRecDepth 100000
open Go.RowKit Bv Fw

/-- Numbers, eight bytes each, the lowest first. -/
def eights : List (BitVec 64) → List (BitVec 8)
  | [] => []
  | x :: xs => lowb x 8 ++ eights xs
theorem eights_len : ∀ xs, (eights xs).length = 8 * xs.length
  | [] => rfl
  | x :: xs => by rw [eights, List.length_append, lowb_len, eights_len xs, List.length_cons]; omega
theorem eights_app (xs ys : List (BitVec 64)) : eights (xs ++ ys) = eights xs ++ eights ys := by
  induction xs with
  | nil => rfl
  | cons x xs ih => rw [List.cons_append, eights, eights, ih, List.append_assoc]
theorem eights_take (xs : List (BitVec 64)) (k : Nat) (h : k < xs.length) : eights (xs.take (k + 1)) = eights (xs.take k) ++ lowb (ath xs k) 8 := by
  rw [List.take_succ_eq_append_getElem h, eights_app, ath_get xs k h]
  simp [eights]
/-- The numbers that bytes are. -/
def wds (b : List (BitVec 8)) : Nat → List (BitVec 64)
  | 0 => []
  | k + 1 => wds b k ++ [low (List.take 8 (List.drop (8 * k) b)) 8]
theorem wds_len (b : List (BitVec 8)) : ∀ k, (wds b k).length = k
  | 0 => rfl
  | k + 1 => by rw [wds, List.length_append, wds_len b k]; rfl
theorem num8 (b : List (BitVec 8)) : ((((((((0#64 <<< 8 ||| (ath b 7).setWidth 64) <<< 8 ||| (ath b 6).setWidth 64) <<< 8 ||| (ath b 5).setWidth 64) <<< 8 ||| (ath b 4).setWidth 64) <<< 8 ||| (ath b 3).setWidth 64) <<< 8 ||| (ath b 2).setWidth 64) <<< 8 ||| (ath b 1).setWidth 64) <<< 8 ||| (ath b 0).setWidth 64) = low b 8 := by
  simp only [low]
  generalize (ath b 0).setWidth 64 = x0
  generalize (ath b 1).setWidth 64 = x1
  generalize (ath b 2).setWidth 64 = x2
  generalize (ath b 3).setWidth 64 = x3
  generalize (ath b 4).setWidth 64 = x4
  generalize (ath b 5).setWidth 64 = x5
  generalize (ath b 6).setWidth 64 = x6
  generalize (ath b 7).setWidth 64 = x7
  simp only [BitVec.shiftLeft_or_distrib, ← BitVec.shiftLeft_add, BitVec.zero_shiftLeft, BitVec.zero_or, Nat.reduceAdd, Nat.reduceMul, BitVec.shiftLeft_zero]
  generalize x1 <<< 8 = y1
  generalize x2 <<< 16 = y2
  generalize x3 <<< 24 = y3
  generalize x4 <<< 32 = y4
  generalize x5 <<< 40 = y5
  generalize x6 <<< 48 = y6
  generalize x7 <<< 56 = y7
  clear b
  ac_rfl

set_option maxHeartbeats 4000000 in
theorem vals64_seq (xs : List (BitVec 64)) (A : Option Addr) (n : Nat) (c : Nat) (g1 : Nat) (hx : xs.length = n) (hn : n ≤ 1000000) : SeqC (Θ := Unit) Try.prog 74 [(.pointer (some ⟨g1, 0, none⟩))] [.rd (some ⟨g1, 0, none⟩) 1 1 1 [(.slice A n c)], .rd A 1 n c (xs.map b64)] n (fun k _ => [(b64 (ath xs k))]) (fun k _ => []) := by
 have hF : Wid Fence.wide := wid_wide
 refine enter_seq (c := _) Try.func74 rfl (by rw [Try.ntmps74]; rfl) rfl ?_
 intro l J Jx W O R hsJ hsX hy hend
 rw [Try.ntmps74]
 refine T_re [(0, (.func (.yield l) #[] #[])), (1, (.pointer (some ⟨g1, 0, none⟩)))] (sc rfl (sc rfl sn)) ?_
 refine T_he [0, 1, 2] [.inv W.heap.size O R (J 0 O R), .rd (some ⟨g1, 0, none⟩) 1 1 1 [(.slice A n c)], .rd A 1 n c (xs.map b64)] ⟨by decide, rfl⟩ ?_
 refine Tsr hF rfl ?_
 refine lq rfl (ld_rdb (src_rd 1 rfl) rfl Try.underlying69 rfl rfl rfl) rfl rfl ?_
 refine lo rfl (pr_len_sl Try.underlying69 rfl rfl) rfl rfl ?_
 refine lm rfl rfl rfl rfl rfl ?_
 refine L_nil ?_
 refine T_block ?_
 refine T_loop (T := Nat × List Nat × List Nat) (fun ⟨k, O, R⟩ => k ≤ n) (fun ⟨k, O, R⟩ => [(0, (.func (.yield l) #[] #[])), (5, (.slice A n c)), (6, (.int .i64 ((n : Nat) : Int))), (7, (.int .i64 ((k : Nat) : Int)))]) (fun ⟨k, O, R⟩ => [.inv W.heap.size O R (J k O R), .rd (some ⟨g1, 0, none⟩) 1 1 1 [(.slice A n c)], .rd A 1 n c (xs.map b64)]) (fun ⟨k, O, R⟩ => n - k) (0, O, R) (by first | trivial | ((try dsimp only); first | omega | (refine ⟨?_, ?_⟩ <;> omega) | (refine ⟨?_, ?_, ?_⟩ <;> omega) | (simp; done) | (simp; omega))) (sc rfl (sc rfl (sc rfl (sc rfl sn)))) [0, 1, 2] ⟨by decide, rfl⟩ ?_
 rintro ⟨k, O, R⟩ hp
 have hp : k ≤ n := hp
 refine T_re [(0, (.func (.yield l) #[] #[])), (5, (.slice A n c)), (6, (.int .i64 ((n : Nat) : Int))), (7, (.int .i64 ((k : Nat) : Int)))] (sc rfl (sc rfl (sc rfl (sc rfl sn)))) ?_
 refine T_he [0, 1, 2] [.inv W.heap.size O R (J k O R), .rd (some ⟨g1, 0, none⟩) 1 1 1 [(.slice A n c)], .rd A 1 n c (xs.map b64)] ⟨by decide, rfl⟩ ?_
 refine Tsr hF rfl ?_
 refine lo rfl (pr_cmp (bo := .lss) (nc_lt (a := k) (b := n)) rfl rfl rfl rfl) rfl rfl ?_
 refine L_nil ?_
 refine T_seq ?_
 refine T_cond (decide (k < n)) rfl (fun hc_1 => ?_) (fun hc_1 => ?_)
 ·
  have hc_1 := of_decide_eq_true hc_1
  refine T_skip ?_
  refine T_seq ?_
  refine T_block ?_
  refine Tsr hF rfl ?_
  refine lo rfl (pr_ixs1 (j := k) (src_none (src_rd 2 rfl)) sd Try.underlying69 kr rfl rfl rfl) rfl rfl ?_
  refine lq rfl (ld_src (m := k) (src_rd 2 rfl) (get64 sd) Try.underlying30 rfl rfl rfl) rfl rfl ?_
  refine la rfl rfl rfl rfl rfl ?_
  refine L_nil ?_
  refine T_seq ?_
  refine T_regI ?_
  refine LI_opP hF rfl rfl (op_pr (pr_move rfl rfl) rfl rfl ?_)
  refine LI_opP hF rfl rfl (op_pr (pr_move rfl rfl) rfl rfl ?_)
  refine LI_op rfl (op_yield (k := k) () hy sd hsJ hsX 0 rfl [] rfl rfl rfl rfl rfl rfl rfl rfl rfl (fun _ => trivial) (fun O2 R3 => ?_) (fun O4 R5 => ?_))
  ·
   refine LI_opP hF rfl rfl (op_pr (pr_un (v := .bool false) rfl rfl rfl) rfl rfl ?_)
   refine LI_nil ?_
   refine T_cond_f rfl ?_
   refine T_skip ?_
   refine T_reg hF rfl ?_
   refine lo rfl (pr_add (na_i64 (a := k) (b := 1) sd) rfl rfl rfl) rfl rfl ?_
   refine lm rfl rfl rfl rfl rfl ?_
   refine L_nil ?_
   exact T_again (k + 1, O2, R3) (by first | trivial | ((try dsimp only); first | omega | (refine ⟨?_, ?_⟩ <;> omega) | (refine ⟨?_, ?_, ?_⟩ <;> omega) | (simp; done) | (simp; omega))) (by first | trivial | ((try dsimp only); first | omega | (refine ⟨?_, ?_⟩ <;> omega) | (refine ⟨?_, ?_, ?_⟩ <;> omega) | (simp; done) | (simp; omega))) (sc rfl (sc rfl (sc rfl (sc rfl sn)))) [0, 1, 2] ⟨by decide, rfl⟩
  ·
   refine LI_opP hF rfl rfl (op_pr (pr_un (v := .bool true) rfl rfl rfl) rfl rfl ?_)
   refine LI_nil ?_
   refine T_cond_t rfl ?_
   refine T_ret ?_
   exact T_finX rfl rfl 0 rfl
 ·
  have hc_1 := of_decide_eq_false hc_1
  refine T_exit rfl ?_
  obtain rfl : k = n := by omega
  exact T_finJ rfl rfl 0 rfl
set_option maxHeartbeats 4000000 in
theorem vals64_f (A : Option Addr) (n : Nat) (c : Nat) (w : World) (hO : HOK [] w)  : Calls Try.prog 62 [(.slice A n c)].toArray w (Ret (T := Nat) [] w (fun g1 => True) (fun g1 => (.func (.func 74) #[] [(.pointer (some ⟨g1, 0, none⟩))].toArray)) (fun g1 => [.old (some ⟨g1, 0, none⟩) 1 1 1 [(.slice A n c)]])) := by
 have hF : Wid Fence.wide := wid_wide
 refine enter (c := _) Try.func62 rfl [] _ [] (by rw [Try.ntmps62]; rfl) (own_rds hO rfl) ?_
 rw [Try.ntmps62]
 refine T_re [(0, (.slice A n c))] (sc rfl sn) ?_
 refine T_he [] [] ⟨by decide, rfl⟩ ?_
 refine Tsr hF rfl ?_
 refine L_op rfl (op_box (zs := [(.slice A n c)]) rfl rfl rfl rfl rfl (fun g1 => ?_))
 refine la rfl rfl rfl rfl rfl ?_
 refine L_nil ?_
 refine Tsr hF rfl ?_
 refine lo rfl (pr_mkfn (us := []) (vs := [(.pointer (some ⟨g1, 0, none⟩))]) rfl rfl rfl) rfl rfl ?_
 refine la rfl rfl rfl rfl rfl ?_
 refine L_nil ?_
 refine T_ret ?_
 refine T_oldb 0 (zs := [(.slice A n c)]) 0 1 1 1 rfl rfl rfl sd sd ?_
 exact T_fin g1 (by first | trivial | omega | (simp; done)) (res1 rfl rfl) [0] ⟨by decide, rfl⟩ rfl
set_option maxHeartbeats 4000000 in
theorem lbytes_f (xs : List (BitVec 64)) (A : Option Addr) (n : Nat) (c : Nat) (w : World) (hO : HOK [.rd A 1 n c (xs.map b64)] w) (hx : xs.length = n) (hn : n ≤ 100) : Calls Try.prog 39 [(.slice A n c)].toArray w (Ret (T := Option Addr × Nat) [] w (fun ⟨B, d⟩ => True) (fun ⟨B, d⟩ => (.slice B (8 * n) d)) (fun ⟨B, d⟩ => [.row (.slice B (8 * n) d) 5 1 (8 * n) ((eights xs).map b8)])) := by
 have hF : Wid Fence.wide := wid_wide
 refine enter_m (c := _) Try.func39 rfl [] _ [.rd A 1 n c (xs.map b64)] (by rw [Try.ntmps39]; rfl) (own_rds hO rfl) ?_
 rw [Try.ntmps39]
 refine T_re [(0, (.slice A n c))] (sc rfl sn) ?_
 refine T_he [0] [.rd A 1 n c (xs.map b64)] ⟨by decide, rfl⟩ ?_
 refine Tsr hF rfl ?_
 refine la rfl rfl rfl rfl rfl ?_
 refine L_nil ?_
 refine Tsr hF rfl ?_
 refine L_op rfl (op_alloc (z := (.slice none 0 0)) (zs := [(.slice none 0 0)]) kr rfl rfl rfl rfl (fun g1 => ?_))
 refine L_nil ?_
 refine T_seq ?_
 refine Tsr hF rfl ?_
 refine lm rfl rfl rfl rfl rfl ?_
 refine L_op rfl (op_cn (fun w hw => vals64_f A n c w (hok_nil w) ) (enters_of Try.func62 kr rfl) rfl rfl rfl rfl rfl (fun t2 q3 => ?_))
 obtain ⟨g1_4, eg1_4⟩ : ∃ x, x = t2 := ⟨_, rfl⟩
 subst eg1_4
 refine L_nil ?_
 refine T_block ?_
 refine T_tord 0 rfl ?_
 refine T_nilrow 5 1 ?_
 refine T_as 0 _ (.row (.slice none (8 * 0) 0) 5 1 (8 * 0) ((eights (xs.take 0)).map b8)) rfl (by first | rfl | simp | (congr 1; simp)) ?_
 refine T_as 2 _ (.blk g1 23 [(.slice none (8 * 0) 0)]) rfl (by first | rfl | simp | (congr 1; simp)) ?_
 refine T_range (Θ := Unit) (T := Option Addr × Nat) (Tx := Unit) (cap := [(.pointer (some ⟨g1_4, 0, none⟩))]) (ps := [7]) (vals64_seq xs A n c g1_4 sd sd) rfl (enters_of Try.func74 kr rfl) (fun k ⟨A1, c1⟩ => k ≤ n) (fun k ⟨A1, c1⟩ => [.row (.slice A1 (8 * k) c1) 5 1 (8 * k) ((eights (xs.take k)).map b8), .blk g1 23 [(.slice A1 (8 * k) c1)], .rd A 1 n c (xs.map b64)]) (fun _ => False) (fun _ => []) 0 (none, 0) (by omega) [1, 0, 3] ⟨by decide, rfl⟩ [2, 3] rfl rfl (fun _ _ => rfl) (fun _ => rfl) (fun _ _ => rfl) (fun _ _ => rfl) rfl (fun _ => trivial) ?_ ?_ ?_
 ·
  intro C2 w2 lo2 rs2 l D m k t th rc hrec hk hp
  obtain ⟨A1, c1⟩ := t
  have hp : k ≤ n := hp
  have hk : k < n := hk
  have hF : Wid (Fence.wide.inRound l) := wid_round l
  refine T_re [(3, (.pointer (some ⟨g1, 0, none⟩))), (7, (b64 (ath xs k)))] (sc rfl (sc rfl sn)) ?_
  refine T_he [0, 1, 2, 3, 4] [.obj l (.loop rc), .obj D (.deferred (some [])), .row (.slice A1 (8 * k) c1) 5 1 (8 * k) ((eights (xs.take k)).map b8), .blk g1 23 [(.slice A1 (8 * k) c1)], .rd A 1 n c (xs.map b64)] ⟨by decide, rfl⟩ ?_
  refine T_reg hF rfl ?_
  refine la rfl rfl rfl rfl rfl ?_
  refine L_nil ?_
  refine T_begun 0 rfl hrec ?_
  refine T_block ?_
  refine T_reg hF rfl ?_
  refine lq rfl (ld_blk 3 rfl rfl Try.underlying23 rfl rfl rfl) rfl rfl ?_
  refine lm rfl rfl rfl rfl rfl ?_
  refine L_op rfl (op_c1 2 rfl (fun w hw => putLow_f (eights (xs.take k)) (ath xs k) 8 A1 (8 * k) c1 w (hw _ (List.mem_of_getElem? (i := 2) rfl)) sd sd) (enters_of Try.func60 kr rfl) rfl rfl rfl rfl rfl (fun t5 q6 => ?_))
  obtain ⟨B7, d8⟩ := t5
  refine L_op rfl (op_store (vs := [(.slice B7 ((8 * k) + 8) d8)]) (cs' := [(.slice B7 ((8 * k) + 8) d8)]) 3 rfl rfl kr (one_one rfl) (by first | decide | simp | exact Nat.le_refl _) rfl rfl rfl rfl rfl ?_)
  refine L_nil ?_
  refine T_as 1 _ (.row (.slice B7 (8 * (k + 1)) d8) 5 1 (8 * (k + 1)) ((eights (xs.take (k + 1))).map b8)) rfl (by rw [eights_take _ _ (by omega)]; rfl) ?_
  refine T_as 1 _ (.blk g1 23 [(.slice B7 (8 * (k + 1)) d8)]) rfl (by congr 1) ?_
  exact T_on (B7, d8) (by omega) [2, 3, 1, 0, 4] ⟨by decide, rfl⟩
 ·
  intro D t hp
  obtain ⟨A1, c1⟩ := t
  have hp : n ≤ n := hp
  refine T_re [(3, (.pointer (some ⟨g1, 0, none⟩)))] (sc rfl sn) ?_
  refine T_he [0, 1, 2, 3] [.obj D (.deferred (some [])), .row (.slice A1 (8 * n) c1) 5 1 (8 * n) ((eights (xs.take n)).map b8), .blk g1 23 [(.slice A1 (8 * n) c1)], .rd A 1 n c (xs.map b64)] ⟨by decide, rfl⟩ ?_
  refine Tsr hF rfl ?_
  refine lq rfl (ld_blk 2 rfl rfl Try.underlying23 rfl rfl rfl) rfl rfl ?_
  refine la rfl rfl rfl rfl rfl ?_
  refine L_nil ?_
  refine T_ret ?_
  refine T_as 1 _ (.row (.slice A1 (8 * n) c1) 5 1 (8 * n) ((eights xs).map b8)) rfl (by rw [List.take_of_length_le (by omega)]) ?_
  exact T_finM 1 rfl (A1, c1) (by first | trivial | omega | (simp; done)) (res1 rfl rfl) [0] ⟨by decide, rfl⟩ rfl
 ·
  exact fun D t hq => hq.elim
set_option maxHeartbeats 4000000 in
theorem lwords_f (b : List (BitVec 8)) (q : Nat) (A : Option Addr) (n : Nat) (c : Nat) (w : World) (hO : HOK [.rd A 1 n c (b.map b8)] w) (hb : b.length = n) (hn : n = 8 * q) (hm : q ≤ 100) : Calls Try.prog 37 [(.slice A n c)].toArray w (Ret (T := Option Addr × Nat) [] w (fun ⟨B, d⟩ => True) (fun ⟨B, d⟩ => (.slice B q d)) (fun ⟨B, d⟩ => [.row (.slice B q d) 30 1 q ((wds b q).map b64)])) := by
 have hF : Wid Fence.wide := wid_wide
 refine enter_m (c := _) Try.func37 rfl [] _ [.rd A 1 n c (b.map b8)] (by rw [Try.ntmps37]; rfl) (own_rds hO rfl) ?_
 rw [Try.ntmps37]
 refine T_re [(0, (.slice A n c))] (sc rfl sn) ?_
 refine T_he [0] [.rd A 1 n c (b.map b8)] ⟨by decide, rfl⟩ ?_
 refine Tsr hF rfl ?_
 refine la rfl rfl rfl rfl rfl ?_
 refine L_nil ?_
 refine Tsr hF rfl ?_
 refine L_op rfl (op_alloc (z := (.slice none 0 0)) (zs := [(.slice none 0 0)]) kr rfl rfl rfl rfl (fun g1 => ?_))
 refine L_nil ?_
 refine T_seq ?_
 refine Tsr hF rfl ?_
 refine lm rfl rfl rfl rfl rfl ?_
 refine L_op rfl (op_cn (fun w hw => chunk_f A n c 8 w (hok_nil w) sd) (enters_of Try.func44 kr rfl) rfl rfl rfl rfl rfl (fun t2 q3 => ?_))
 obtain ⟨g1_4, g2_5⟩ := t2
 refine L_nil ?_
 refine T_block ?_
 refine T_tord 0 rfl ?_
 refine T_tord 1 rfl ?_
 refine T_nilrow 30 1 ?_
 refine T_as 0 _ (.row (.slice none 0 0) 30 1 0 ((wds b 0).map b64)) rfl (by first | rfl | simp | (congr 1; simp)) ?_
 refine T_range (Θ := Option Addr) (T := Option Addr × Nat) (Tx := Unit) (cap := [(.pointer (some ⟨g1_4, 0, none⟩)), (.pointer (some ⟨g2_5, 0, none⟩))]) (ps := [7]) (chunk_seq b 8 A n c g1_4 g2_5 sd sd sd sd) rfl (enters_of Try.func65 kr rfl) (fun k ⟨A1, c1⟩ => k ≤ q) (fun k ⟨A1, c1⟩ => [.row (.slice A1 k c1) 30 1 k ((wds b k).map b64), .rd (some ⟨g1_4, 0, none⟩) 1 1 1 [(.slice A n c)], .blk g1 69 [(.slice A1 k c1)], .rd A 1 n c (b.map b8)]) (fun _ => False) (fun _ => []) 0 (none, 0) (by omega) [0, 2, 3, 4] ⟨by decide, rfl⟩ [2, 1, 4] rfl rfl (fun _ _ => rfl) (fun _ => rfl) (fun _ _ => rfl) (fun _ _ => rfl) rfl (fun _ => trivial) ?_ ?_ ?_
 ·
  intro C2 w2 lo2 rs2 l D m k t th rc hrec hk hp
  obtain ⟨A1, c1⟩ := t
  obtain ⟨B, rfl⟩ : ∃ x, x = th := ⟨_, rfl⟩
  have hp : k ≤ q := hp
  have hk : k < (n + 8 - 1) / 8 := hk
  have hF : Wid (Fence.wide.inRound l) := wid_round l
  refine T_re [(3, (.pointer (some ⟨g1, 0, none⟩))), (7, (.slice B (min 8 (n - 8 * k)) (min 8 (n - 8 * k))))] (sc rfl (sc rfl sn)) ?_
  refine T_he [0, 1, 2, 3, 4, 5, 6] [.rd B 1 (min 8 (n - 8 * k)) (min 8 (n - 8 * k)) ((List.take (min 8 (n - 8 * k)) (List.drop (8 * k) b)).map b8), .obj l (.loop rc), .obj D (.deferred (some [])), .row (.slice A1 k c1) 30 1 k ((wds b k).map b64), .rd (some ⟨g1_4, 0, none⟩) 1 1 1 [(.slice A n c)], .blk g1 69 [(.slice A1 k c1)], .rd A 1 n c (b.map b8)] ⟨by decide, rfl⟩ ?_
  refine T_reg hF rfl ?_
  refine la rfl rfl rfl rfl rfl ?_
  refine L_nil ?_
  refine T_begun 1 rfl hrec ?_
  refine T_block ?_
  refine T_regD [.obj l (.loop { rc with state := .busy }), .rd B 1 (min 8 (n - 8 * k)) (min 8 (n - 8 * k)) ((List.take (min 8 (n - 8 * k)) (List.drop (8 * k) b)).map b8), .obj D (.deferred (some [])), .row (.slice A1 k c1) 30 1 k ((wds b k).map b64), .rd (some ⟨g1_4, 0, none⟩) 1 1 1 [(.slice A n c)], .blk g1 69 [(.slice A1 k c1)], .rd A 1 n c (b.map b8)] 4 6 #[false, false, false, false, false, false] hF kr kr ?_
  refine D_pure (i := 1) [0, 1, 2, 3, 4, 5, 6] rfl kr rfl (pr_move rfl rfl) (.inr rfl) rfl rfl ?_
  refine D_take (i := 0) [0, 1, 2, 3, 4, 5, 6] rfl kr rfl (ld_blk 5 rfl rfl Try.underlying69 rfl rfl rfl) rfl rfl rfl ?_
  refine D_one 2 _ rfl kr rfl (op_cn (fun w hw => low_f (List.take (min 8 (n - 8 * k)) (List.drop (8 * k) b)) 8 B (min 8 (n - 8 * k)) (min 8 (n - 8 * k)) w (hok_cons ((src_rd 1 rfl) w hw) (hok_nil w)) sd sd sd) (enters_of Try.func61 kr rfl) rfl rfl rfl rfl rfl (fun t6 q7 => ?_))
  refine D_on [0, 1, 2, 3, 4, 5, 6] rfl ?_
  refine D_one 3 _ rfl kr rfl (op_bslice (e := 30) (zs := [(b64 (low (List.take (min 8 (n - 8 * k)) (List.drop (8 * k) b)) 8))]) (qs := [(0, (b64 (low (List.take (min 8 (n - 8 * k)) (List.drop (8 * k) b)) 8)))]) (fun _ => by kernel_rfl) rfl rfl rfl rfl (fun g8 => ?_))
  refine D_on [1, 2, 3, 4, 5, 6, 7] rfl ?_
  refine D_one 4 _ rfl kr rfl (op_append (z := (b64 (0#64))) (size := 1) (bytes := 8) 4 rfl Try.underlying69 kr kr (by decide) (src_full (z := 1) 0 rfl rfl sd sd) (by simp [Value.oneCell']) sd sd rfl rfl rfl rfl rfl (fun A9 C10 => ?_))
  refine T_as 0 _ (.row (.slice A9 (k + 1) C10) 30 1 (k + 1) (((wds b k) ++ [(low (List.take (min 8 (n - 8 * k)) (List.drop (8 * k) b)) 8)]).map b64)) rfl (by first | rfl | (congr 1; simp; done) | (simp only [List.map_append]; rfl) | (rw [List.map_append]; rfl)) ?_
  refine D_past kr ?_
  refine D_one 5 _ rfl kr rfl (op_store (vs := [(.slice A9 (k + 1) C10)]) (cs' := [(.slice A9 (k + 1) C10)]) 6 rfl rfl kr (one_one rfl) (by first | decide | simp | exact Nat.le_refl _) rfl rfl rfl rfl rfl ?_)
  refine D_past kr ?_
  refine D_done kr ?_
  refine T_as 1 _ (.row (.slice A9 (k + 1) C10) 30 1 (k + 1) ((wds b (k + 1)).map b64)) rfl (by rw [wds, show min 8 (n - 8 * k) = 8 from by omega]) ?_
  exact T_on (A9, C10) (by dsimp only; omega) [3, 5, 0, 6, 1, 7] ⟨by decide, rfl⟩
 ·
  intro D t hp
  obtain ⟨A1, c1⟩ := t
  have hp : ((n + 8 - 1) / 8) ≤ q := hp
  refine T_re [(3, (.pointer (some ⟨g1, 0, none⟩)))] (sc rfl sn) ?_
  refine T_he [0, 1, 2, 3, 4] [.obj D (.deferred (some [])), .row (.slice A1 ((n + 8 - 1) / 8) c1) 30 1 ((n + 8 - 1) / 8) ((wds b ((n + 8 - 1) / 8)).map b64), .rd (some ⟨g1_4, 0, none⟩) 1 1 1 [(.slice A n c)], .blk g1 69 [(.slice A1 ((n + 8 - 1) / 8) c1)], .rd A 1 n c (b.map b8)] ⟨by decide, rfl⟩ ?_
  refine Tsr hF rfl ?_
  refine lq rfl (ld_blk 3 rfl rfl Try.underlying69 rfl rfl rfl) rfl rfl ?_
  refine la rfl rfl rfl rfl rfl ?_
  refine L_nil ?_
  refine T_ret ?_
  refine T_slot 2 (.slice A1 ((n + 8 - 1) / 8) c1) (.slice A1 q c1) rfl (by rw [show (n + 8 - 1) / 8 = q from by omega]) ?_
  refine T_as 1 _ (.row (.slice A1 q c1) 30 1 q ((wds b q).map b64)) rfl (by rw [show (n + 8 - 1) / 8 = q from by omega]) ?_
  exact T_finM 1 rfl (A1, c1) (by first | trivial | omega | (simp; done)) (res1 rfl rfl) [0] ⟨by decide, rfl⟩ rfl
 ·
  exact fun D t hq => hq.elim
set_option maxHeartbeats 4000000 in
theorem r8eight_f (v : BitVec 64) (w : World) (hO : HOK [] w)  : Calls Try.prog 51 [(b64 v)].toArray w (Ret (T := Option Addr × Nat) [] w (fun ⟨B, d⟩ => True) (fun ⟨B, d⟩ => (.slice B 8 d)) (fun ⟨B, d⟩ => [.row (.slice B 8 d) 5 1 8 ((lowb v 8).map b8)])) := by
 have hF : Wid Fence.wide := wid_wide
 refine enter (c := _) Try.func51 rfl [] _ [] (by rw [Try.ntmps51]; rfl) (own_rds hO rfl) ?_
 rw [Try.ntmps51]
 refine T_re [(0, (b64 v))] (sc rfl sn) ?_
 refine T_he [] [] ⟨by decide, rfl⟩ ?_
 refine Tsr hF rfl ?_
 refine la rfl rfl rfl rfl rfl ?_
 refine L_nil ?_
 refine Tsr hF rfl ?_
 refine la rfl rfl rfl rfl rfl ?_
 refine L_nil ?_
 refine T_seq ?_
 refine Tsr hF rfl ?_
 refine la rfl rfl rfl rfl rfl ?_
 refine L_nil ?_
 refine T_block ?_
 refine T_nilrow 5 1 ?_
 refine T_as 0 _ (.row (.slice none 0 0) 5 1 0 ((lowb v 0).map b8)) rfl (by first | rfl | simp | (congr 1; simp)) ?_
 refine T_loop (T := Nat × Option Addr × Nat) (fun ⟨k, A1, c1⟩ => k ≤ 8) (fun ⟨k, A1, c1⟩ => [(0, (b64 v)), (3, (.slice A1 k c1)), (4, (.int .i64 ((k : Nat) : Int)))]) (fun ⟨k, A1, c1⟩ => [.row (.slice A1 k c1) 5 1 k ((lowb v k).map b8)]) (fun ⟨k, A1, c1⟩ => 8 - k) (0, none, 0) (by first | trivial | ((try dsimp only); first | omega | (refine ⟨?_, ?_⟩ <;> omega) | (refine ⟨?_, ?_, ?_⟩ <;> omega) | (simp; done) | (simp; omega))) (sc rfl (sc rfl (sc rfl sn))) [0] ⟨by decide, rfl⟩ ?_
 rintro ⟨k, A1, c1⟩ hp
 have hp : k ≤ 8 := hp
 refine T_re [(0, (b64 v)), (3, (.slice A1 k c1)), (4, (.int .i64 ((k : Nat) : Int)))] (sc rfl (sc rfl (sc rfl sn))) ?_
 refine T_he [0] [.row (.slice A1 k c1) 5 1 k ((lowb v k).map b8)] ⟨by decide, rfl⟩ ?_
 refine T_seq ?_
 refine Tsr hF rfl ?_
 refine lm rfl rfl rfl rfl rfl ?_
 refine lo rfl (pr_cmp (bo := .lss) (nc_lt (a := k) (b := 8)) rfl rfl rfl rfl) rfl rfl ?_
 refine L_nil ?_
 refine T_cond (decide (k < 8)) rfl (fun hc_1 => ?_) (fun hc_1 => ?_)
 ·
  have hc_1 := of_decide_eq_true hc_1
  refine T_skip ?_
  refine T_seq ?_
  refine T_block ?_
  refine T_reg hF rfl ?_
  refine lm rfl rfl rfl rfl rfl ?_
  refine lm rfl rfl rfl rfl rfl ?_
  refine lm rfl rfl rfl rfl rfl ?_
  refine lo rfl (pr_mul (nm_i64 (a := 8) (b := k) sd) rfl rfl rfl) rfl rfl ?_
  refine lo rfl (pr_cv (ni_u64 (a := 8 * k) sd) Try.underlying3 Try.underlying22 rfl rfl) rfl rfl ?_
  refine lo rfl (pr_shift (sh_shr64 v _ (8 * k)) rfl rfl rfl rfl) rfl rfl ?_
  refine lo rfl (pr_cv (cv64_8 _) Try.underlying30 Try.underlying5 rfl rfl) rfl rfl ?_
  refine L_op rfl (op_bslice (e := 5) (zs := [(b8 ((v >>> (8 * k)).setWidth 8))]) (qs := [(0, (b8 ((v >>> (8 * k)).setWidth 8)))]) (fun _ => by kernel_rfl) rfl rfl rfl rfl (fun g2 => ?_))
  refine L_op rfl (op_append (z := (b8 (0#8))) (size := 1) (bytes := 1) 1 rfl Try.underlying23 kr kr (by decide) (src_full (z := 1) 0 rfl rfl sd sd) (by simp [Value.oneCell']) sd sd rfl rfl rfl rfl rfl (fun A3 C4 => ?_))
  refine T_as 0 _ (.row (.slice A3 (k + 1) C4) 5 1 (k + 1) (((lowb v k) ++ [((v >>> (8 * k)).setWidth 8)]).map b8)) rfl (by first | rfl | (congr 1; simp; done) | (simp only [List.map_append]; rfl) | (rw [List.map_append]; rfl)) ?_
  refine la rfl rfl rfl rfl rfl ?_
  refine L_nil ?_
  refine T_reg hF rfl ?_
  refine lm rfl rfl rfl rfl rfl ?_
  refine lo rfl (pr_add (na_i64 (a := k) (b := 1) sd) rfl rfl rfl) rfl rfl ?_
  refine la rfl rfl rfl rfl rfl ?_
  refine L_nil ?_
  refine T_as 0 _ (.row (.slice A3 (k + 1) C4) 5 1 (k + 1) ((lowb v (k + 1)).map b8)) rfl (by first | rfl | simp | (congr 1; simp)) ?_
  exact T_again (k + 1, A3, C4) (by first | trivial | ((try dsimp only); first | omega | (refine ⟨?_, ?_⟩ <;> omega) | (refine ⟨?_, ?_, ?_⟩ <;> omega) | (simp; done) | (simp; omega))) (by first | trivial | ((try dsimp only); first | omega | (refine ⟨?_, ?_⟩ <;> omega) | (refine ⟨?_, ?_, ?_⟩ <;> omega) | (simp; done) | (simp; omega))) (sc rfl (sc rfl (sc rfl sn))) [0] ⟨by decide, rfl⟩
 ·
  have hc_1 := of_decide_eq_false hc_1
  refine T_exit rfl ?_
  obtain rfl : 8 = k := by omega
  refine Tsr hF rfl ?_
  refine lm rfl rfl rfl rfl rfl ?_
  refine la rfl rfl rfl rfl rfl ?_
  refine L_nil ?_
  refine T_ret ?_
  exact T_fin (A1, c1) (by first | trivial | omega | (simp; done)) (res1 rfl rfl) [0] ⟨by decide, rfl⟩ rfl
set_option maxHeartbeats 4000000 in
theorem r8eights_f (xs : List (BitVec 64)) (A : Option Addr) (n : Nat) (c : Nat) (w : World) (hO : HOK [.rd A 1 n c (xs.map b64)] w) (hx : xs.length = n) (hn : n ≤ 100) : Calls Try.prog 29 [(.slice A n c)].toArray w (Ret (T := Option Addr × Nat) [] w (fun ⟨B, d⟩ => True) (fun ⟨B, d⟩ => (.slice B (8 * n) d)) (fun ⟨B, d⟩ => [.row (.slice B (8 * n) d) 5 1 (8 * n) ((eights xs).map b8)])) := by
 have hF : Wid Fence.wide := wid_wide
 refine enter (c := _) Try.func29 rfl [] _ [.rd A 1 n c (xs.map b64)] (by rw [Try.ntmps29]; rfl) (own_rds hO rfl) ?_
 rw [Try.ntmps29]
 refine T_re [(0, (.slice A n c))] (sc rfl sn) ?_
 refine T_he [0] [.rd A 1 n c (xs.map b64)] ⟨by decide, rfl⟩ ?_
 refine Tsr hF rfl ?_
 refine la rfl rfl rfl rfl rfl ?_
 refine L_nil ?_
 refine Tsr hF rfl ?_
 refine la rfl rfl rfl rfl rfl ?_
 refine L_nil ?_
 refine T_seq ?_
 refine Tsr hF rfl ?_
 refine la rfl rfl rfl rfl rfl ?_
 refine L_nil ?_
 refine T_block ?_
 refine T_slot 3 (.slice none 0 0) (.slice none (8 * 0) 0) rfl (by first | rfl | (congr 2; omega) | (simp; omega)) ?_
 refine T_nilrow 5 1 ?_
 refine T_as 0 _ (.row (.slice none (8 * 0) 0) 5 1 (8 * 0) ((eights (xs.take 0)).map b8)) rfl (by first | rfl | simp | (congr 1; simp)) ?_
 refine T_loop (T := Nat × Option Addr × Nat) (fun ⟨k, A1, c1⟩ => k ≤ n) (fun ⟨k, A1, c1⟩ => [(0, (.slice A n c)), (3, (.slice A1 (8 * k) c1)), (4, (.int .i64 ((k : Nat) : Int)))]) (fun ⟨k, A1, c1⟩ => [.row (.slice A1 (8 * k) c1) 5 1 (8 * k) ((eights (xs.take k)).map b8), .rd A 1 n c (xs.map b64)]) (fun ⟨k, A1, c1⟩ => n - k) (0, none, 0) (by first | trivial | ((try dsimp only); first | omega | (refine ⟨?_, ?_⟩ <;> omega) | (refine ⟨?_, ?_, ?_⟩ <;> omega) | (simp; done) | (simp; omega))) (sc rfl (sc rfl (sc rfl sn))) [0, 1] ⟨by decide, rfl⟩ ?_
 rintro ⟨k, A1, c1⟩ hp
 have hp : k ≤ n := hp
 refine T_re [(0, (.slice A n c)), (3, (.slice A1 (8 * k) c1)), (4, (.int .i64 ((k : Nat) : Int)))] (sc rfl (sc rfl (sc rfl sn))) ?_
 refine T_he [0, 1] [.row (.slice A1 (8 * k) c1) 5 1 (8 * k) ((eights (xs.take k)).map b8), .rd A 1 n c (xs.map b64)] ⟨by decide, rfl⟩ ?_
 refine T_seq ?_
 refine Tsr hF rfl ?_
 refine lm rfl rfl rfl rfl rfl ?_
 refine lm rfl rfl rfl rfl rfl ?_
 refine lo rfl (pr_len_sl Try.underlying69 rfl rfl) rfl rfl ?_
 refine lo rfl (pr_cmp (bo := .lss) (nc_lt (a := k) (b := n)) rfl rfl rfl rfl) rfl rfl ?_
 refine L_nil ?_
 refine T_cond (decide (k < n)) rfl (fun hc_1 => ?_) (fun hc_1 => ?_)
 ·
  have hc_1 := of_decide_eq_true hc_1
  refine T_skip ?_
  refine T_seq ?_
  refine T_block ?_
  refine T_reg hF rfl ?_
  refine lm rfl rfl rfl rfl rfl ?_
  refine lm rfl rfl rfl rfl rfl ?_
  refine lm rfl rfl rfl rfl rfl ?_
  refine lo rfl (pr_ixs1 (j := k) (src_none (src_rd 1 rfl)) sd Try.underlying69 kr rfl rfl rfl) rfl rfl ?_
  refine lq rfl (ld_src (m := k) (src_rd 1 rfl) (get64 sd) Try.underlying30 rfl rfl rfl) rfl rfl ?_
  refine L_op rfl (op_cn (fun w hw => r8eight_f (ath xs k) w (hok_nil w) ) (enters_of Try.func51 kr rfl) rfl rfl rfl rfl rfl (fun t2 q3 => ?_))
  obtain ⟨B4, d5⟩ := t2
  refine L_op rfl (op_append (z := (b8 (0#8))) (size := 1) (bytes := 1) 1 rfl Try.underlying23 kr kr (by decide) (src_row 0 rfl) (all8_one _) sd sd rfl rfl rfl rfl rfl (fun A6 C7 => ?_))
  refine T_as 0 _ (.row (.slice A6 (8 * k + 8) C7) 5 1 (8 * k + 8) (((eights (xs.take k)) ++ (lowb (ath xs k) 8)).map b8)) rfl (by first | rfl | (congr 1; simp; done) | (simp only [List.map_append]; rfl) | (rw [List.map_append]; rfl)) ?_
  refine la rfl rfl rfl rfl rfl ?_
  refine L_nil ?_
  refine T_reg hF rfl ?_
  refine lm rfl rfl rfl rfl rfl ?_
  refine lo rfl (pr_add (na_i64 (a := k) (b := 1) sd) rfl rfl rfl) rfl rfl ?_
  refine la rfl rfl rfl rfl rfl ?_
  refine L_nil ?_
  refine T_slot 3 (.slice A6 (8 * k + 8) C7) (.slice A6 (8 * (k + 1)) C7) rfl (by first | rfl | (congr 2; omega) | (simp; omega)) ?_
  refine T_as 0 _ (.row (.slice A6 (8 * (k + 1)) C7) 5 1 (8 * (k + 1)) ((eights (xs.take (k + 1))).map b8)) rfl (by rw [eights_take _ _ (by omega)]; rfl) ?_
  exact T_again (k + 1, A6, C7) (by first | trivial | ((try dsimp only); first | omega | (refine ⟨?_, ?_⟩ <;> omega) | (refine ⟨?_, ?_, ?_⟩ <;> omega) | (simp; done) | (simp; omega))) (by first | trivial | ((try dsimp only); first | omega | (refine ⟨?_, ?_⟩ <;> omega) | (refine ⟨?_, ?_, ?_⟩ <;> omega) | (simp; done) | (simp; omega))) (sc rfl (sc rfl (sc rfl sn))) [0, 2] ⟨by decide, rfl⟩
 ·
  have hc_1 := of_decide_eq_false hc_1
  refine T_exit rfl ?_
  obtain rfl : n = k := by omega
  refine Tsr hF rfl ?_
  refine lm rfl rfl rfl rfl rfl ?_
  refine la rfl rfl rfl rfl rfl ?_
  refine L_nil ?_
  refine T_ret ?_
  refine T_as 0 _ (.row (.slice A1 (8 * n) c1) 5 1 (8 * n) ((eights xs).map b8)) rfl (by rw [List.take_of_length_le (by omega)]) ?_
  exact T_fin (A1, c1) (by first | trivial | omega | (simp; done)) (res1 rfl rfl) [0] ⟨by decide, rfl⟩ rfl
set_option maxHeartbeats 4000000 in
theorem number_f (b : List (BitVec 8)) (A : Option Addr) (n : Nat) (c : Nat) (w : World) (hO : HOK [.rd A 1 n c (b.map b8)] w) (hn : n = 8) (hb : b.length = n) : Calls Try.prog 38 [(.slice A n c)].toArray w (Ret (T := Unit) [] w (fun _ => True) (fun _ => (b64 (low b 8))) (fun _ => [])) := by
 have hF : Wid Fence.wide := wid_wide
 refine enter (c := _) Try.func38 rfl [] _ [.rd A 1 n c (b.map b8)] (by rw [Try.ntmps38]; rfl) (own_rds hO rfl) ?_
 rw [Try.ntmps38]
 refine T_re [(0, (.slice A n c))] (sc rfl sn) ?_
 refine T_he [0] [.rd A 1 n c (b.map b8)] ⟨by decide, rfl⟩ ?_
 refine Tsr hF rfl ?_
 refine la rfl rfl rfl rfl rfl ?_
 refine L_nil ?_
 refine Tsr hF rfl ?_
 refine la rfl rfl rfl rfl rfl ?_
 refine L_nil ?_
 refine T_seq ?_
 refine Tsr hF rfl ?_
 refine la rfl rfl rfl rfl rfl ?_
 refine L_nil ?_
 refine T_block ?_
 refine T_rounds 9 ?_
 refine T_round ?_
 refine T_seq ?_
 refine Tsr hF rfl ?_
 refine lm rfl rfl rfl rfl rfl ?_
 refine lo rfl (pr_cmp (bo := .geq) (nc_le (a := 0) (b := 7)) rfl rfl rfl rfl) rfl rfl ?_
 refine L_nil ?_
 refine T_cond_t rfl ?_
 refine T_skip ?_
 refine T_seq ?_
 refine T_block ?_
 refine T_reg hF rfl ?_
 refine lm rfl rfl rfl rfl rfl ?_
 refine lo rfl (pr_shift (sh_shl64 (0#64) _ 8) rfl rfl rfl rfl) rfl rfl ?_
 refine lm rfl rfl rfl rfl rfl ?_
 refine lm rfl rfl rfl rfl rfl ?_
 refine lo rfl (pr_ixs1 (j := 7) (src_none (src_rd 0 rfl)) sd Try.underlying23 kr rfl rfl rfl) rfl rfl ?_
 refine lq rfl (ld_src (m := 7) (src_rd 0 rfl) (get8 sd) Try.underlying5 rfl rfl rfl) rfl rfl ?_
 refine lo rfl (pr_cv (cv8_64 _) Try.underlying5 Try.underlying30 rfl rfl) rfl rfl ?_
 refine lo rfl (pr_or (ib_or64 _ _) rfl rfl rfl) rfl rfl ?_
 refine la rfl rfl rfl rfl rfl ?_
 refine L_nil ?_
 refine T_reg hF rfl ?_
 refine lm rfl rfl rfl rfl rfl ?_
 refine lo rfl ((pr_as (pr_sub (ns_i64 (a := 7) (b := 1) sd sd) rfl rfl rfl) (show Value.int .i64 ((7 - 1 : Nat) : Int) = .int .i64 ((6 : Nat) : Int) from rfl))) rfl rfl ?_
 refine la rfl rfl rfl rfl rfl ?_
 refine L_nil ?_
 refine T_round ?_
 refine T_seq ?_
 refine Tsr hF rfl ?_
 refine lm rfl rfl rfl rfl rfl ?_
 refine lo rfl (pr_cmp (bo := .geq) (nc_le (a := 0) (b := 6)) rfl rfl rfl rfl) rfl rfl ?_
 refine L_nil ?_
 refine T_cond_t rfl ?_
 refine T_skip ?_
 refine T_seq ?_
 refine T_block ?_
 refine T_reg hF rfl ?_
 refine lm rfl rfl rfl rfl rfl ?_
 refine lo rfl (pr_shift (sh_shl64 ((0#64 <<< 8) ||| ((ath b 7).setWidth 64)) _ 8) rfl rfl rfl rfl) rfl rfl ?_
 refine lm rfl rfl rfl rfl rfl ?_
 refine lm rfl rfl rfl rfl rfl ?_
 refine lo rfl (pr_ixs1 (j := 6) (src_none (src_rd 0 rfl)) sd Try.underlying23 kr rfl rfl rfl) rfl rfl ?_
 refine lq rfl (ld_src (m := 6) (src_rd 0 rfl) (get8 sd) Try.underlying5 rfl rfl rfl) rfl rfl ?_
 refine lo rfl (pr_cv (cv8_64 _) Try.underlying5 Try.underlying30 rfl rfl) rfl rfl ?_
 refine lo rfl (pr_or (ib_or64 _ _) rfl rfl rfl) rfl rfl ?_
 refine la rfl rfl rfl rfl rfl ?_
 refine L_nil ?_
 refine T_reg hF rfl ?_
 refine lm rfl rfl rfl rfl rfl ?_
 refine lo rfl ((pr_as (pr_sub (ns_i64 (a := 6) (b := 1) sd sd) rfl rfl rfl) (show Value.int .i64 ((6 - 1 : Nat) : Int) = .int .i64 ((5 : Nat) : Int) from rfl))) rfl rfl ?_
 refine la rfl rfl rfl rfl rfl ?_
 refine L_nil ?_
 refine T_round ?_
 refine T_seq ?_
 refine Tsr hF rfl ?_
 refine lm rfl rfl rfl rfl rfl ?_
 refine lo rfl (pr_cmp (bo := .geq) (nc_le (a := 0) (b := 5)) rfl rfl rfl rfl) rfl rfl ?_
 refine L_nil ?_
 refine T_cond_t rfl ?_
 refine T_skip ?_
 refine T_seq ?_
 refine T_block ?_
 refine T_reg hF rfl ?_
 refine lm rfl rfl rfl rfl rfl ?_
 refine lo rfl (pr_shift (sh_shl64 ((((0#64 <<< 8) ||| ((ath b 7).setWidth 64)) <<< 8) ||| ((ath b 6).setWidth 64)) _ 8) rfl rfl rfl rfl) rfl rfl ?_
 refine lm rfl rfl rfl rfl rfl ?_
 refine lm rfl rfl rfl rfl rfl ?_
 refine lo rfl (pr_ixs1 (j := 5) (src_none (src_rd 0 rfl)) sd Try.underlying23 kr rfl rfl rfl) rfl rfl ?_
 refine lq rfl (ld_src (m := 5) (src_rd 0 rfl) (get8 sd) Try.underlying5 rfl rfl rfl) rfl rfl ?_
 refine lo rfl (pr_cv (cv8_64 _) Try.underlying5 Try.underlying30 rfl rfl) rfl rfl ?_
 refine lo rfl (pr_or (ib_or64 _ _) rfl rfl rfl) rfl rfl ?_
 refine la rfl rfl rfl rfl rfl ?_
 refine L_nil ?_
 refine T_reg hF rfl ?_
 refine lm rfl rfl rfl rfl rfl ?_
 refine lo rfl ((pr_as (pr_sub (ns_i64 (a := 5) (b := 1) sd sd) rfl rfl rfl) (show Value.int .i64 ((5 - 1 : Nat) : Int) = .int .i64 ((4 : Nat) : Int) from rfl))) rfl rfl ?_
 refine la rfl rfl rfl rfl rfl ?_
 refine L_nil ?_
 refine T_round ?_
 refine T_seq ?_
 refine Tsr hF rfl ?_
 refine lm rfl rfl rfl rfl rfl ?_
 refine lo rfl (pr_cmp (bo := .geq) (nc_le (a := 0) (b := 4)) rfl rfl rfl rfl) rfl rfl ?_
 refine L_nil ?_
 refine T_cond_t rfl ?_
 refine T_skip ?_
 refine T_seq ?_
 refine T_block ?_
 refine T_reg hF rfl ?_
 refine lm rfl rfl rfl rfl rfl ?_
 refine lo rfl (pr_shift (sh_shl64 ((((((0#64 <<< 8) ||| ((ath b 7).setWidth 64)) <<< 8) ||| ((ath b 6).setWidth 64)) <<< 8) ||| ((ath b 5).setWidth 64)) _ 8) rfl rfl rfl rfl) rfl rfl ?_
 refine lm rfl rfl rfl rfl rfl ?_
 refine lm rfl rfl rfl rfl rfl ?_
 refine lo rfl (pr_ixs1 (j := 4) (src_none (src_rd 0 rfl)) sd Try.underlying23 kr rfl rfl rfl) rfl rfl ?_
 refine lq rfl (ld_src (m := 4) (src_rd 0 rfl) (get8 sd) Try.underlying5 rfl rfl rfl) rfl rfl ?_
 refine lo rfl (pr_cv (cv8_64 _) Try.underlying5 Try.underlying30 rfl rfl) rfl rfl ?_
 refine lo rfl (pr_or (ib_or64 _ _) rfl rfl rfl) rfl rfl ?_
 refine la rfl rfl rfl rfl rfl ?_
 refine L_nil ?_
 refine T_reg hF rfl ?_
 refine lm rfl rfl rfl rfl rfl ?_
 refine lo rfl ((pr_as (pr_sub (ns_i64 (a := 4) (b := 1) sd sd) rfl rfl rfl) (show Value.int .i64 ((4 - 1 : Nat) : Int) = .int .i64 ((3 : Nat) : Int) from rfl))) rfl rfl ?_
 refine la rfl rfl rfl rfl rfl ?_
 refine L_nil ?_
 refine T_re [(0, (.slice A n c)), (3, (b64 ((((((((0#64 <<< 8) ||| ((ath b 7).setWidth 64)) <<< 8) ||| ((ath b 6).setWidth 64)) <<< 8) ||| ((ath b 5).setWidth 64)) <<< 8) ||| ((ath b 4).setWidth 64)))), (4, (.int .i64 ((3 : Nat) : Int)))] (sc rfl (sc rfl (sc rfl sn))) ?_
 refine T_he [0] [.rd A 1 n c (b.map b8)] ⟨by decide, rfl⟩ ?_
 refine T_round ?_
 refine T_seq ?_
 refine Tsr hF rfl ?_
 refine lm rfl rfl rfl rfl rfl ?_
 refine lo rfl (pr_cmp (bo := .geq) (nc_le (a := 0) (b := 3)) rfl rfl rfl rfl) rfl rfl ?_
 refine L_nil ?_
 refine T_cond_t rfl ?_
 refine T_skip ?_
 refine T_seq ?_
 refine T_block ?_
 refine T_reg hF rfl ?_
 refine lm rfl rfl rfl rfl rfl ?_
 refine lo rfl (pr_shift (sh_shl64 ((((((((0#64 <<< 8) ||| ((ath b 7).setWidth 64)) <<< 8) ||| ((ath b 6).setWidth 64)) <<< 8) ||| ((ath b 5).setWidth 64)) <<< 8) ||| ((ath b 4).setWidth 64)) _ 8) rfl rfl rfl rfl) rfl rfl ?_
 refine lm rfl rfl rfl rfl rfl ?_
 refine lm rfl rfl rfl rfl rfl ?_
 refine lo rfl (pr_ixs1 (j := 3) (src_none (src_rd 0 rfl)) sd Try.underlying23 kr rfl rfl rfl) rfl rfl ?_
 refine lq rfl (ld_src (m := 3) (src_rd 0 rfl) (get8 sd) Try.underlying5 rfl rfl rfl) rfl rfl ?_
 refine lo rfl (pr_cv (cv8_64 _) Try.underlying5 Try.underlying30 rfl rfl) rfl rfl ?_
 refine lo rfl (pr_or (ib_or64 _ _) rfl rfl rfl) rfl rfl ?_
 refine la rfl rfl rfl rfl rfl ?_
 refine L_nil ?_
 refine T_reg hF rfl ?_
 refine lm rfl rfl rfl rfl rfl ?_
 refine lo rfl ((pr_as (pr_sub (ns_i64 (a := 3) (b := 1) sd sd) rfl rfl rfl) (show Value.int .i64 ((3 - 1 : Nat) : Int) = .int .i64 ((2 : Nat) : Int) from rfl))) rfl rfl ?_
 refine la rfl rfl rfl rfl rfl ?_
 refine L_nil ?_
 refine T_round ?_
 refine T_seq ?_
 refine Tsr hF rfl ?_
 refine lm rfl rfl rfl rfl rfl ?_
 refine lo rfl (pr_cmp (bo := .geq) (nc_le (a := 0) (b := 2)) rfl rfl rfl rfl) rfl rfl ?_
 refine L_nil ?_
 refine T_cond_t rfl ?_
 refine T_skip ?_
 refine T_seq ?_
 refine T_block ?_
 refine T_reg hF rfl ?_
 refine lm rfl rfl rfl rfl rfl ?_
 refine lo rfl (pr_shift (sh_shl64 ((((((((((0#64 <<< 8) ||| ((ath b 7).setWidth 64)) <<< 8) ||| ((ath b 6).setWidth 64)) <<< 8) ||| ((ath b 5).setWidth 64)) <<< 8) ||| ((ath b 4).setWidth 64)) <<< 8) ||| ((ath b 3).setWidth 64)) _ 8) rfl rfl rfl rfl) rfl rfl ?_
 refine lm rfl rfl rfl rfl rfl ?_
 refine lm rfl rfl rfl rfl rfl ?_
 refine lo rfl (pr_ixs1 (j := 2) (src_none (src_rd 0 rfl)) sd Try.underlying23 kr rfl rfl rfl) rfl rfl ?_
 refine lq rfl (ld_src (m := 2) (src_rd 0 rfl) (get8 sd) Try.underlying5 rfl rfl rfl) rfl rfl ?_
 refine lo rfl (pr_cv (cv8_64 _) Try.underlying5 Try.underlying30 rfl rfl) rfl rfl ?_
 refine lo rfl (pr_or (ib_or64 _ _) rfl rfl rfl) rfl rfl ?_
 refine la rfl rfl rfl rfl rfl ?_
 refine L_nil ?_
 refine T_reg hF rfl ?_
 refine lm rfl rfl rfl rfl rfl ?_
 refine lo rfl ((pr_as (pr_sub (ns_i64 (a := 2) (b := 1) sd sd) rfl rfl rfl) (show Value.int .i64 ((2 - 1 : Nat) : Int) = .int .i64 ((1 : Nat) : Int) from rfl))) rfl rfl ?_
 refine la rfl rfl rfl rfl rfl ?_
 refine L_nil ?_
 refine T_round ?_
 refine T_seq ?_
 refine Tsr hF rfl ?_
 refine lm rfl rfl rfl rfl rfl ?_
 refine lo rfl (pr_cmp (bo := .geq) (nc_le (a := 0) (b := 1)) rfl rfl rfl rfl) rfl rfl ?_
 refine L_nil ?_
 refine T_cond_t rfl ?_
 refine T_skip ?_
 refine T_seq ?_
 refine T_block ?_
 refine T_reg hF rfl ?_
 refine lm rfl rfl rfl rfl rfl ?_
 refine lo rfl (pr_shift (sh_shl64 ((((((((((((0#64 <<< 8) ||| ((ath b 7).setWidth 64)) <<< 8) ||| ((ath b 6).setWidth 64)) <<< 8) ||| ((ath b 5).setWidth 64)) <<< 8) ||| ((ath b 4).setWidth 64)) <<< 8) ||| ((ath b 3).setWidth 64)) <<< 8) ||| ((ath b 2).setWidth 64)) _ 8) rfl rfl rfl rfl) rfl rfl ?_
 refine lm rfl rfl rfl rfl rfl ?_
 refine lm rfl rfl rfl rfl rfl ?_
 refine lo rfl (pr_ixs1 (j := 1) (src_none (src_rd 0 rfl)) sd Try.underlying23 kr rfl rfl rfl) rfl rfl ?_
 refine lq rfl (ld_src (m := 1) (src_rd 0 rfl) (get8 sd) Try.underlying5 rfl rfl rfl) rfl rfl ?_
 refine lo rfl (pr_cv (cv8_64 _) Try.underlying5 Try.underlying30 rfl rfl) rfl rfl ?_
 refine lo rfl (pr_or (ib_or64 _ _) rfl rfl rfl) rfl rfl ?_
 refine la rfl rfl rfl rfl rfl ?_
 refine L_nil ?_
 refine T_reg hF rfl ?_
 refine lm rfl rfl rfl rfl rfl ?_
 refine lo rfl ((pr_as (pr_sub (ns_i64 (a := 1) (b := 1) sd sd) rfl rfl rfl) (show Value.int .i64 ((1 - 1 : Nat) : Int) = .int .i64 ((0 : Nat) : Int) from rfl))) rfl rfl ?_
 refine la rfl rfl rfl rfl rfl ?_
 refine L_nil ?_
 refine T_round ?_
 refine T_seq ?_
 refine Tsr hF rfl ?_
 refine lm rfl rfl rfl rfl rfl ?_
 refine lo rfl (pr_cmp (bo := .geq) (nc_le (a := 0) (b := 0)) rfl rfl rfl rfl) rfl rfl ?_
 refine L_nil ?_
 refine T_cond_t rfl ?_
 refine T_skip ?_
 refine T_seq ?_
 refine T_block ?_
 refine T_reg hF rfl ?_
 refine lm rfl rfl rfl rfl rfl ?_
 refine lo rfl (pr_shift (sh_shl64 ((((((((((((((0#64 <<< 8) ||| ((ath b 7).setWidth 64)) <<< 8) ||| ((ath b 6).setWidth 64)) <<< 8) ||| ((ath b 5).setWidth 64)) <<< 8) ||| ((ath b 4).setWidth 64)) <<< 8) ||| ((ath b 3).setWidth 64)) <<< 8) ||| ((ath b 2).setWidth 64)) <<< 8) ||| ((ath b 1).setWidth 64)) _ 8) rfl rfl rfl rfl) rfl rfl ?_
 refine lm rfl rfl rfl rfl rfl ?_
 refine lm rfl rfl rfl rfl rfl ?_
 refine lo rfl (pr_ixs1 (j := 0) (src_none (src_rd 0 rfl)) sd Try.underlying23 kr rfl rfl rfl) rfl rfl ?_
 refine lq rfl (ld_src (m := 0) (src_rd 0 rfl) (get8 sd) Try.underlying5 rfl rfl rfl) rfl rfl ?_
 refine lo rfl (pr_cv (cv8_64 _) Try.underlying5 Try.underlying30 rfl rfl) rfl rfl ?_
 refine lo rfl (pr_or (ib_or64 _ _) rfl rfl rfl) rfl rfl ?_
 refine la rfl rfl rfl rfl rfl ?_
 refine L_nil ?_
 refine T_reg hF rfl ?_
 refine lm rfl rfl rfl rfl rfl ?_
 refine lo rfl ((pr_as (pr_sub (zw_i64 (z := (((0 : Nat) : Int) - ((1 : Nat) : Int))) sd) rfl rfl rfl) (show Value.int .i64 (((0 : Nat) : Int) - ((1 : Nat) : Int)) = .int .i64 (-1) from rfl))) rfl rfl ?_
 refine la rfl rfl rfl rfl rfl ?_
 refine L_nil ?_
 refine T_round ?_
 refine T_seq ?_
 refine Tsr hF rfl ?_
 refine lm rfl rfl rfl rfl rfl ?_
 refine lo rfl (pr_cmp (bo := .geq) (k := .i64) (a := (-1)) (b := ((0 : Nat) : Int)) (c := decide (((0 : Nat) : Int) ≤ (-1))) rfl rfl rfl rfl rfl) rfl rfl ?_
 refine L_nil ?_
 refine T_cond_no (t := decide (((0 : Nat) : Int) ≤ (-1))) rfl (by decide) ?_
 refine T_exit rfl ?_
 refine Tsr hF rfl ?_
 refine lm rfl rfl rfl rfl rfl ?_
 refine la rfl rfl rfl rfl rfl ?_
 refine L_nil ?_
 refine T_ret ?_
 refine T_slot 2 _ (b64 (low b 8)) rfl (by rw [← num8 b]) ?_
 exact T_fin () (by first | trivial | omega | (simp; done)) (res1 rfl rfl) [] ⟨by decide, rfl⟩ rfl
end Go.Proofs.Ytlplpmkdebemnaa
namespace Go.Proofs.Ytlplpmkdebemnaa
set_option linter.unusedVariables false
set_option linter.unusedSimpArgs false
set_option linter.unnecessarySimpa false
set_option maxRecDepth 100000
open Go.RowKit Bv Fw

/-- The parts of a letter that may not be. -/
def LBad (w : List (BitVec 64)) : Prop := ath w 0 < 1#64 ∨ 5#64 < ath w 0 ∨ 4#64 < ath w 1 ∨ 4#64 < ath w 2 ∨ 4000#64 < ath w 4
instance (w : List (BitVec 64)) : Decidable (LBad w) := by unfold LBad; infer_instance
/-- No letter. -/
def lnil : List Value := [.int .i64 ((0 : Nat) : Int), .int .i64 ((0 : Nat) : Int), .int .i64 ((0 : Nat) : Int), b64 0#64, .int .i64 ((0 : Nat) : Int), b64 0#64, b64 0#64, b64 0#64]
def lof (w : List (BitVec 64)) : List Value := [.int .i64 (((ath w 0).toNat : Nat) : Int), .int .i64 (((ath w 1).toNat : Nat) : Int), .int .i64 (((ath w 2).toNat : Nat) : Int), b64 (ath w 3), .int .i64 (((ath w 4).toNat : Nat) : Int), b64 (ath w 5), b64 (ath w 6), b64 (ath w 7)]
/-- The letter that bytes are, and why they are none. -/
def ltv (b : List (BitVec 8)) : List Value := if b.length = 64 ∧ ¬ LBad (wds b 8) then lof (wds b 8) else lnil
def lte (b : List (BitVec 8)) : Nat := if b.length < 64 then 3 else if 64 < b.length then 4 else if LBad (wds b 8) then 4 else 0
theorem ltv_short {b : List (BitVec 8)} (h : b.length < 64) : ltv b = lnil := by unfold ltv; rw [if_neg (by omega)]
theorem ltv_long {b : List (BitVec 8)} (h : 64 < b.length) : ltv b = lnil := by unfold ltv; rw [if_neg (by omega)]
theorem ltv_bad {b : List (BitVec 8)} (h : LBad (wds b 8)) : ltv b = lnil := by unfold ltv; rw [if_neg (fun q => q.2 h)]
theorem ltv_ok {b : List (BitVec 8)} (h : b.length = 64) (h1 : ¬ ath (wds b 8) 0 < 1#64) (h2 : ¬ 5#64 < ath (wds b 8) 0) (h3 : ¬ 4#64 < ath (wds b 8) 1) (h4 : ¬ 4#64 < ath (wds b 8) 2) (h5 : ¬ 4000#64 < ath (wds b 8) 4) : ltv b = lof (wds b 8) := by
  unfold ltv; rw [if_pos ⟨h, fun q => by rcases q with q | q | q | q | q <;> contradiction⟩]
theorem ltv_len (b : List (BitVec 8)) : (ltv b).length = 8 := by unfold ltv; split <;> rfl
theorem lte_short {b : List (BitVec 8)} (h : b.length < 64) : lte b = 3 := by unfold lte; rw [if_pos h]
theorem lte_long {b : List (BitVec 8)} (h : 64 < b.length) : lte b = 4 := by unfold lte; rw [if_neg (by omega), if_pos h]
theorem lte_bad {b : List (BitVec 8)} (hl : b.length = 64) (h : LBad (wds b 8)) : lte b = 4 := by unfold lte; rw [if_neg (by omega), if_neg (by omega), if_pos h]
theorem lte_ok {b : List (BitVec 8)} (h : b.length = 64) (h1 : ¬ ath (wds b 8) 0 < 1#64) (h2 : ¬ 5#64 < ath (wds b 8) 0) (h3 : ¬ 4#64 < ath (wds b 8) 1) (h4 : ¬ 4#64 < ath (wds b 8) 2) (h5 : ¬ 4000#64 < ath (wds b 8) 4) : lte b = 0 := by
  unfold lte; rw [if_neg (by omega), if_neg (by omega), if_neg (fun q => by rcases q with q | q | q | q | q <;> contradiction)]
theorem lbad1 {w : List (BitVec 64)} (h : ath w 0 < 1#64) : LBad w := .inl h
theorem lbad2 {w : List (BitVec 64)} (h : 5#64 < ath w 0) : LBad w := .inr (.inl h)
theorem lbad3 {w : List (BitVec 64)} (h : 4#64 < ath w 1) : LBad w := .inr (.inr (.inl h))
theorem lbad4 {w : List (BitVec 64)} (h : 4#64 < ath w 2) : LBad w := .inr (.inr (.inr (.inl h)))
theorem lbad5 {w : List (BitVec 64)} (h : 4000#64 < ath w 4) : LBad w := .inr (.inr (.inr (.inr h)))
theorem nle64 {a x : BitVec 64} (h : ¬ a < x) : x.toNat ≤ a.toNat := by rw [BitVec.lt_def] at h; omega
/-- The array of eight numbers, so far. -/
def wpad (b : List (BitVec 8)) (k : Nat) : List (BitVec 64) := wds b k ++ List.replicate (8 - k) 0#64
theorem wpad_len (b : List (BitVec 8)) (k : Nat) (h : k ≤ 8) : (wpad b k).length = 8 := by unfold wpad; rw [List.length_append, wds_len, List.length_replicate]; omega
theorem wpad_set (b : List (BitVec 8)) (k : Nat) (h : k < 8) : (wpad b k).set k (low (List.take 8 (List.drop (8 * k) b)) 8) = wpad b (k + 1) := by
  unfold wpad
  rw [List.set_append_right _ _ (by rw [wds_len]; omega), wds_len, Nat.sub_self, show 8 - k = (8 - (k + 1)) + 1 from by omega, List.replicate_succ, List.set_cons_zero, wds, List.append_assoc]
  rfl
theorem wpad_all (b : List (BitVec 8)) : wpad b 8 = wds b 8 := by unfold wpad; simp

set_option maxHeartbeats 4000000 in
theorem lpack_f (vk : Int) (vf : Int) (vt : Int) (vs : BitVec 64) (vj : Int) (va : BitVec 64) (vr : BitVec 64) (vq : BitVec 64) (w : World) (hO : HOK [] w)  : Calls Try.prog 16 [(.agg [(.int .i64 vk), (.int .i64 vf), (.int .i64 vt), (b64 vs), (.int .i64 vj), (b64 va), (b64 vr), (b64 vq)].toArray)].toArray w (Ret (T := Option Addr × Nat) [] w (fun ⟨B, d⟩ => True) (fun ⟨B, d⟩ => (.slice B 64 d)) (fun ⟨B, d⟩ => [.row (.slice B 64 d) 5 1 64 ((eights [BitVec.ofInt 64 vk, BitVec.ofInt 64 vf, BitVec.ofInt 64 vt, vs, BitVec.ofInt 64 vj, va, vr, vq]).map b8)])) := by
 have hF : Wid Fence.wide := wid_wide
 refine enter (c := _) Try.func16 rfl [] _ [] (by rw [Try.ntmps16]; rfl) (own_rds hO rfl) ?_
 rw [Try.ntmps16]
 refine T_re [(0, (.agg [(.int .i64 vk), (.int .i64 vf), (.int .i64 vt), (b64 vs), (.int .i64 vj), (b64 va), (b64 vr), (b64 vq)].toArray))] (sc rfl sn) ?_
 refine T_he [] [] ⟨by decide, rfl⟩ ?_
 refine Tsr hF rfl ?_
 refine L_op rfl (op_box (zs := [(.int .i64 vk), (.int .i64 vf), (.int .i64 vt), (b64 vs), (.int .i64 vj), (b64 va), (b64 vr), (b64 vq)]) rfl rfl rfl rfl rfl (fun g1 => ?_))
 refine la rfl rfl rfl rfl rfl ?_
 refine L_nil ?_
 refine Tsr hF rfl ?_
 refine lo rfl (pr_fa (m := 0) (m' := 0) (z := 0) (by rfl) Try.underlying33 rfl kr rfl rfl) rfl rfl ?_
 refine lq rfl (ld_blk 0 rfl rfl Try.underlying3 rfl rfl rfl) rfl rfl ?_
 refine lo rfl (pr_cv (zc_u64 vk) Try.underlying3 Try.underlying30 rfl rfl) rfl rfl ?_
 refine lo rfl (pr_fa (m := 0) (m' := 1) (z := 0) (by rfl) Try.underlying33 rfl kr rfl rfl) rfl rfl ?_
 refine lq rfl (ld_blk 0 rfl rfl Try.underlying3 rfl rfl rfl) rfl rfl ?_
 refine lo rfl (pr_cv (zc_u64 vf) Try.underlying3 Try.underlying30 rfl rfl) rfl rfl ?_
 refine lo rfl (pr_fa (m := 0) (m' := 2) (z := 0) (by rfl) Try.underlying33 rfl kr rfl rfl) rfl rfl ?_
 refine lq rfl (ld_blk 0 rfl rfl Try.underlying3 rfl rfl rfl) rfl rfl ?_
 refine lo rfl (pr_cv (zc_u64 vt) Try.underlying3 Try.underlying30 rfl rfl) rfl rfl ?_
 refine lo rfl (pr_fa (m := 0) (m' := 3) (z := 0) (by rfl) Try.underlying33 rfl kr rfl rfl) rfl rfl ?_
 refine lq rfl (ld_blk 0 rfl rfl Try.underlying30 rfl rfl rfl) rfl rfl ?_
 refine lo rfl (pr_fa (m := 0) (m' := 4) (z := 0) (by rfl) Try.underlying33 rfl kr rfl rfl) rfl rfl ?_
 refine lq rfl (ld_blk 0 rfl rfl Try.underlying3 rfl rfl rfl) rfl rfl ?_
 refine lo rfl (pr_cv (zc_u64 vj) Try.underlying3 Try.underlying30 rfl rfl) rfl rfl ?_
 refine lo rfl (pr_fa (m := 0) (m' := 5) (z := 0) (by rfl) Try.underlying33 rfl kr rfl rfl) rfl rfl ?_
 refine lq rfl (ld_blk 0 rfl rfl Try.underlying30 rfl rfl rfl) rfl rfl ?_
 refine lo rfl (pr_fa (m := 0) (m' := 6) (z := 1) (by rfl) Try.underlying33 rfl kr rfl rfl) rfl rfl ?_
 refine lo rfl (pr_ixa (j := 0) (m' := 6) sd (by omega) Try.underlying31 (z := 1) kr rfl rfl rfl) rfl rfl ?_
 refine lq rfl (ld_blk 0 rfl rfl Try.underlying30 rfl rfl rfl) rfl rfl ?_
 refine lo rfl (pr_fa (m := 0) (m' := 6) (z := 1) (by rfl) Try.underlying33 rfl kr rfl rfl) rfl rfl ?_
 refine lo rfl (pr_ixa (j := 1) (m' := 7) sd (by omega) Try.underlying31 (z := 1) kr rfl rfl rfl) rfl rfl ?_
 refine lq rfl (ld_blk 0 rfl rfl Try.underlying30 rfl rfl rfl) rfl rfl ?_
 refine L_op rfl (op_bslice (e := 30) (zs := [(b64 (BitVec.ofInt 64 vk)), (b64 (BitVec.ofInt 64 vf)), (b64 (BitVec.ofInt 64 vt)), (b64 vs), (b64 (BitVec.ofInt 64 vj)), (b64 va), (b64 vr), (b64 vq)]) (qs := [(0, (b64 (BitVec.ofInt 64 vk))), (1, (b64 (BitVec.ofInt 64 vf))), (2, (b64 (BitVec.ofInt 64 vt))), (3, (b64 vs)), (4, (b64 (BitVec.ofInt 64 vj))), (5, (b64 va)), (6, (b64 vr)), (7, (b64 vq))]) (fun _ => by kernel_rfl) rfl rfl rfl rfl (fun g2 => ?_))
 refine L_op rfl (op_cn (fun w hw => lbytes_f [(BitVec.ofInt 64 vk), (BitVec.ofInt 64 vf), (BitVec.ofInt 64 vt), vs, (BitVec.ofInt 64 vj), va, vr, vq] (some ⟨g2, 0, none⟩) 8 8 w (hok_cons ((src_full (z := 1) 0 rfl rfl sd sd) w hw) (hok_nil w)) sd sd) (enters_of Try.func39 kr rfl) rfl rfl rfl rfl rfl (fun t3 q4 => ?_))
 obtain ⟨B5, d6⟩ := t3
 refine la rfl rfl rfl rfl rfl ?_
 refine L_nil ?_
 refine T_ret ?_
 refine T_slot 2 (.slice B5 (8 * 8) d6) (.slice B5 64 d6) rfl (by first | rfl | (simp; done)) ?_
 refine T_as 0 _ (.row (.slice B5 64 d6) 5 1 64 ((eights [BitVec.ofInt 64 vk, BitVec.ofInt 64 vf, BitVec.ofInt 64 vt, vs, BitVec.ofInt 64 vj, va, vr, vq]).map b8)) rfl (by first | rfl | simp | (congr 1; simp)) ?_
 exact T_fin (B5, d6) (by first | trivial | omega | (simp; done)) (res1 rfl rfl) [0] ⟨by decide, rfl⟩ rfl
set_option maxHeartbeats 4000000 in
theorem rlpack_f (vk : Int) (vf : Int) (vt : Int) (vs : BitVec 64) (vj : Int) (va : BitVec 64) (vr : BitVec 64) (vq : BitVec 64) (w : World) (hO : HOK [] w)  : Calls Try.prog 17 [(.agg [(.int .i64 vk), (.int .i64 vf), (.int .i64 vt), (b64 vs), (.int .i64 vj), (b64 va), (b64 vr), (b64 vq)].toArray)].toArray w (Ret (T := Option Addr × Nat) [] w (fun ⟨B, d⟩ => True) (fun ⟨B, d⟩ => (.slice B 64 d)) (fun ⟨B, d⟩ => [.row (.slice B 64 d) 5 1 64 ((eights [BitVec.ofInt 64 vk, BitVec.ofInt 64 vf, BitVec.ofInt 64 vt, vs, BitVec.ofInt 64 vj, va, vr, vq]).map b8)])) := by
 have hF : Wid Fence.wide := wid_wide
 refine enter (c := _) Try.func17 rfl [] _ [] (by rw [Try.ntmps17]; rfl) (own_rds hO rfl) ?_
 rw [Try.ntmps17]
 refine T_re [(0, (.agg [(.int .i64 vk), (.int .i64 vf), (.int .i64 vt), (b64 vs), (.int .i64 vj), (b64 va), (b64 vr), (b64 vq)].toArray))] (sc rfl sn) ?_
 refine T_he [] [] ⟨by decide, rfl⟩ ?_
 refine Tsr hF rfl ?_
 refine L_op rfl (op_box (zs := [(.int .i64 vk), (.int .i64 vf), (.int .i64 vt), (b64 vs), (.int .i64 vj), (b64 va), (b64 vr), (b64 vq)]) rfl rfl rfl rfl rfl (fun g1 => ?_))
 refine la rfl rfl rfl rfl rfl ?_
 refine L_nil ?_
 refine Tsr hF rfl ?_
 refine lo rfl (pr_fa (m := 0) (m' := 0) (z := 0) (by rfl) Try.underlying33 rfl kr rfl rfl) rfl rfl ?_
 refine lq rfl (ld_blk 0 rfl rfl Try.underlying3 rfl rfl rfl) rfl rfl ?_
 refine lo rfl (pr_cv (zc_u64 vk) Try.underlying3 Try.underlying30 rfl rfl) rfl rfl ?_
 refine lo rfl (pr_fa (m := 0) (m' := 1) (z := 0) (by rfl) Try.underlying33 rfl kr rfl rfl) rfl rfl ?_
 refine lq rfl (ld_blk 0 rfl rfl Try.underlying3 rfl rfl rfl) rfl rfl ?_
 refine lo rfl (pr_cv (zc_u64 vf) Try.underlying3 Try.underlying30 rfl rfl) rfl rfl ?_
 refine lo rfl (pr_fa (m := 0) (m' := 2) (z := 0) (by rfl) Try.underlying33 rfl kr rfl rfl) rfl rfl ?_
 refine lq rfl (ld_blk 0 rfl rfl Try.underlying3 rfl rfl rfl) rfl rfl ?_
 refine lo rfl (pr_cv (zc_u64 vt) Try.underlying3 Try.underlying30 rfl rfl) rfl rfl ?_
 refine lo rfl (pr_fa (m := 0) (m' := 3) (z := 0) (by rfl) Try.underlying33 rfl kr rfl rfl) rfl rfl ?_
 refine lq rfl (ld_blk 0 rfl rfl Try.underlying30 rfl rfl rfl) rfl rfl ?_
 refine lo rfl (pr_fa (m := 0) (m' := 4) (z := 0) (by rfl) Try.underlying33 rfl kr rfl rfl) rfl rfl ?_
 refine lq rfl (ld_blk 0 rfl rfl Try.underlying3 rfl rfl rfl) rfl rfl ?_
 refine lo rfl (pr_cv (zc_u64 vj) Try.underlying3 Try.underlying30 rfl rfl) rfl rfl ?_
 refine lo rfl (pr_fa (m := 0) (m' := 5) (z := 0) (by rfl) Try.underlying33 rfl kr rfl rfl) rfl rfl ?_
 refine lq rfl (ld_blk 0 rfl rfl Try.underlying30 rfl rfl rfl) rfl rfl ?_
 refine lo rfl (pr_fa (m := 0) (m' := 6) (z := 1) (by rfl) Try.underlying33 rfl kr rfl rfl) rfl rfl ?_
 refine lo rfl (pr_ixa (j := 0) (m' := 6) sd (by omega) Try.underlying31 (z := 1) kr rfl rfl rfl) rfl rfl ?_
 refine lq rfl (ld_blk 0 rfl rfl Try.underlying30 rfl rfl rfl) rfl rfl ?_
 refine lo rfl (pr_fa (m := 0) (m' := 6) (z := 1) (by rfl) Try.underlying33 rfl kr rfl rfl) rfl rfl ?_
 refine lo rfl (pr_ixa (j := 1) (m' := 7) sd (by omega) Try.underlying31 (z := 1) kr rfl rfl rfl) rfl rfl ?_
 refine lq rfl (ld_blk 0 rfl rfl Try.underlying30 rfl rfl rfl) rfl rfl ?_
 refine L_op rfl (op_bslice (e := 30) (zs := [(b64 (BitVec.ofInt 64 vk)), (b64 (BitVec.ofInt 64 vf)), (b64 (BitVec.ofInt 64 vt)), (b64 vs), (b64 (BitVec.ofInt 64 vj)), (b64 va), (b64 vr), (b64 vq)]) (qs := [(0, (b64 (BitVec.ofInt 64 vk))), (1, (b64 (BitVec.ofInt 64 vf))), (2, (b64 (BitVec.ofInt 64 vt))), (3, (b64 vs)), (4, (b64 (BitVec.ofInt 64 vj))), (5, (b64 va)), (6, (b64 vr)), (7, (b64 vq))]) (fun _ => by kernel_rfl) rfl rfl rfl rfl (fun g2 => ?_))
 refine L_op rfl (op_cn (fun w hw => r8eights_f [(BitVec.ofInt 64 vk), (BitVec.ofInt 64 vf), (BitVec.ofInt 64 vt), vs, (BitVec.ofInt 64 vj), va, vr, vq] (some ⟨g2, 0, none⟩) 8 8 w (hok_cons ((src_full (z := 1) 0 rfl rfl sd sd) w hw) (hok_nil w)) sd sd) (enters_of Try.func29 kr rfl) rfl rfl rfl rfl rfl (fun t3 q4 => ?_))
 obtain ⟨B5, d6⟩ := t3
 refine la rfl rfl rfl rfl rfl ?_
 refine L_nil ?_
 refine T_ret ?_
 refine T_slot 2 (.slice B5 (8 * 8) d6) (.slice B5 64 d6) rfl (by first | rfl | (simp; done)) ?_
 refine T_as 0 _ (.row (.slice B5 64 d6) 5 1 64 ((eights [BitVec.ofInt 64 vk, BitVec.ofInt 64 vf, BitVec.ofInt 64 vt, vs, BitVec.ofInt 64 vj, va, vr, vq]).map b8)) rfl (by first | rfl | simp | (congr 1; simp)) ?_
 exact T_fin (B5, d6) (by first | trivial | omega | (simp; done)) (res1 rfl rfl) [0] ⟨by decide, rfl⟩ rfl
set_option maxHeartbeats 4000000 in
theorem ltake_f (b : List (BitVec 8)) (A : Option Addr) (n : Nat) (c : Nat) (w : World) (hO : HOK [.rd A 1 n c (b.map b8)] w) (hb : b.length = n) (hn : n ≤ 1000000) : Calls Try.prog 13 [(.slice A n c)].toArray w (Ret (T := Unit) [] w (fun _ => True) (fun _ => (.tuple [(.agg (ltv b).toArray), (.int .i64 (((lte b) : Nat) : Int))].toArray)) (fun _ => [])) := by
 have hwl := wds_len b 8
 have hll := ltv_len b
 have hF : Wid Fence.wide := wid_wide
 refine enter (c := _) Try.func13 rfl [] _ [.rd A 1 n c (b.map b8)] (by rw [Try.ntmps13]; rfl) (own_rds hO rfl) ?_
 rw [Try.ntmps13]
 refine T_re [(0, (.slice A n c))] (sc rfl sn) ?_
 refine T_he [0] [.rd A 1 n c (b.map b8)] ⟨by decide, rfl⟩ ?_
 refine Tsr hF rfl ?_
 refine L_op rfl (op_alloc (z := .agg [(.int .i64 ((0 : Nat) : Int)), (.int .i64 ((0 : Nat) : Int)), (.int .i64 ((0 : Nat) : Int)), (b64 (0#64)), (.int .i64 ((0 : Nat) : Int)), (b64 (0#64)), (b64 (0#64)), (b64 (0#64))].toArray) (zs := [(.int .i64 ((0 : Nat) : Int)), (.int .i64 ((0 : Nat) : Int)), (.int .i64 ((0 : Nat) : Int)), (b64 (0#64)), (.int .i64 ((0 : Nat) : Int)), (b64 (0#64)), (b64 (0#64)), (b64 (0#64))]) kr rfl rfl rfl rfl (fun g1 => ?_))
 refine la rfl rfl rfl rfl rfl ?_
 refine L_nil ?_
 refine T_seq ?_
 refine T_block ?_
 refine Tsr hF rfl ?_
 refine lm rfl rfl rfl rfl rfl ?_
 refine lo rfl (pr_len_sl Try.underlying23 rfl rfl) rfl rfl ?_
 refine lo rfl (pr_cmp (bo := .lss) (nc_lt (a := n) (b := 64)) rfl rfl rfl rfl) rfl rfl ?_
 refine la rfl rfl rfl rfl rfl ?_
 refine L_nil ?_
 refine T_cond (decide (n < 64)) rfl (fun hc_2 => ?_) (fun hc_2 => ?_)
 ·
  have hc_2 := of_decide_eq_true hc_2
  refine Tsr hF rfl ?_
  refine lo rfl (pr_build (qs := []) (v := .agg [(.int .i64 ((0 : Nat) : Int)), (.int .i64 ((0 : Nat) : Int)), (.int .i64 ((0 : Nat) : Int)), (b64 (0#64)), (.int .i64 ((0 : Nat) : Int)), (b64 (0#64)), (b64 (0#64)), (b64 (0#64))].toArray) (fun _ => by kernel_rfl) rfl rfl) rfl rfl ?_
  refine L_op rfl (op_sto (n := 8) (vs := [(.int .i64 ((0 : Nat) : Int)), (.int .i64 ((0 : Nat) : Int)), (.int .i64 ((0 : Nat) : Int)), (b64 (0#64)), (.int .i64 ((0 : Nat) : Int)), (b64 (0#64)), (b64 (0#64)), (b64 (0#64))]) 0 rfl rfl kr (by simp [Value.oneCell']) kr kr rfl rfl rfl rfl ?_)
  refine la rfl rfl rfl rfl rfl ?_
  refine L_nil ?_
  refine T_ret ?_
  refine T_as 0 _ (.blk g1 33 (ltv b)) rfl (by first | rfl | (rw [ltv_short (by omega)]; rfl) | (rw [ltv_long (by omega)]; rfl) | rw [lte_short (by omega)] | rw [lte_long (by omega)] | (rw [ltv_ok (by omega) (by assumption) (by assumption) (by assumption) (by assumption) (by assumption)]; rfl) | rw [lte_ok (by omega) (by assumption) (by assumption) (by assumption) (by assumption) (by assumption)] | (rw [ltv_bad (lbad1 (by assumption))]; rfl) | rw [lte_bad (by omega) (lbad1 (by assumption))] | (rw [ltv_bad (lbad2 (by assumption))]; rfl) | rw [lte_bad (by omega) (lbad2 (by assumption))] | (rw [ltv_bad (lbad3 (by assumption))]; rfl) | rw [lte_bad (by omega) (lbad3 (by assumption))] | (rw [ltv_bad (lbad4 (by assumption))]; rfl) | rw [lte_bad (by omega) (lbad4 (by assumption))] | (rw [ltv_bad (lbad5 (by assumption))]; rfl) | rw [lte_bad (by omega) (lbad5 (by assumption))]) ?_
  refine T_slot 3 (.int .i64 ((3 : Nat) : Int)) (.int .i64 (((lte b) : Nat) : Int)) rfl (by first | rfl | (rw [ltv_short (by omega)]; rfl) | (rw [ltv_long (by omega)]; rfl) | rw [lte_short (by omega)] | rw [lte_long (by omega)] | (rw [ltv_ok (by omega) (by assumption) (by assumption) (by assumption) (by assumption) (by assumption)]; rfl) | rw [lte_ok (by omega) (by assumption) (by assumption) (by assumption) (by assumption) (by assumption)] | (rw [ltv_bad (lbad1 (by assumption))]; rfl) | rw [lte_bad (by omega) (lbad1 (by assumption))] | (rw [ltv_bad (lbad2 (by assumption))]; rfl) | rw [lte_bad (by omega) (lbad2 (by assumption))] | (rw [ltv_bad (lbad3 (by assumption))]; rfl) | rw [lte_bad (by omega) (lbad3 (by assumption))] | (rw [ltv_bad (lbad4 (by assumption))]; rfl) | rw [lte_bad (by omega) (lbad4 (by assumption))] | (rw [ltv_bad (lbad5 (by assumption))]; rfl) | rw [lte_bad (by omega) (lbad5 (by assumption))]) ?_
  exact T_fin () (by first | trivial | omega | (simp; done)) (resct 0 rfl rfl rfl Try.underlying33 rfl (fwz (n := 8) kr sd) rfl) [] ⟨by decide, rfl⟩ rfl
 ·
  have hc_2 := of_decide_eq_false hc_2
  refine Tsr hF rfl ?_
  refine lm rfl rfl rfl rfl rfl ?_
  refine lo rfl (pr_len_sl Try.underlying23 rfl rfl) rfl rfl ?_
  refine lo rfl (pr_cmp (bo := .gtr) (nc_lt (a := 64) (b := n)) rfl rfl rfl rfl) rfl rfl ?_
  refine la rfl rfl rfl rfl rfl ?_
  refine L_nil ?_
  refine T_cond (decide (64 < n)) rfl (fun hc_3 => ?_) (fun hc_3 => ?_)
  ·
   have hc_3 := of_decide_eq_true hc_3
   refine Tsr hF rfl ?_
   refine lo rfl (pr_build (qs := []) (v := .agg [(.int .i64 ((0 : Nat) : Int)), (.int .i64 ((0 : Nat) : Int)), (.int .i64 ((0 : Nat) : Int)), (b64 (0#64)), (.int .i64 ((0 : Nat) : Int)), (b64 (0#64)), (b64 (0#64)), (b64 (0#64))].toArray) (fun _ => by kernel_rfl) rfl rfl) rfl rfl ?_
   refine L_op rfl (op_sto (n := 8) (vs := [(.int .i64 ((0 : Nat) : Int)), (.int .i64 ((0 : Nat) : Int)), (.int .i64 ((0 : Nat) : Int)), (b64 (0#64)), (.int .i64 ((0 : Nat) : Int)), (b64 (0#64)), (b64 (0#64)), (b64 (0#64))]) 0 rfl rfl kr (by simp [Value.oneCell']) kr kr rfl rfl rfl rfl ?_)
   refine la rfl rfl rfl rfl rfl ?_
   refine L_nil ?_
   refine T_ret ?_
   refine T_as 0 _ (.blk g1 33 (ltv b)) rfl (by first | rfl | (rw [ltv_short (by omega)]; rfl) | (rw [ltv_long (by omega)]; rfl) | rw [lte_short (by omega)] | rw [lte_long (by omega)] | (rw [ltv_ok (by omega) (by assumption) (by assumption) (by assumption) (by assumption) (by assumption)]; rfl) | rw [lte_ok (by omega) (by assumption) (by assumption) (by assumption) (by assumption) (by assumption)] | (rw [ltv_bad (lbad1 (by assumption))]; rfl) | rw [lte_bad (by omega) (lbad1 (by assumption))] | (rw [ltv_bad (lbad2 (by assumption))]; rfl) | rw [lte_bad (by omega) (lbad2 (by assumption))] | (rw [ltv_bad (lbad3 (by assumption))]; rfl) | rw [lte_bad (by omega) (lbad3 (by assumption))] | (rw [ltv_bad (lbad4 (by assumption))]; rfl) | rw [lte_bad (by omega) (lbad4 (by assumption))] | (rw [ltv_bad (lbad5 (by assumption))]; rfl) | rw [lte_bad (by omega) (lbad5 (by assumption))]) ?_
   refine T_slot 3 (.int .i64 ((4 : Nat) : Int)) (.int .i64 (((lte b) : Nat) : Int)) rfl (by first | rfl | (rw [ltv_short (by omega)]; rfl) | (rw [ltv_long (by omega)]; rfl) | rw [lte_short (by omega)] | rw [lte_long (by omega)] | (rw [ltv_ok (by omega) (by assumption) (by assumption) (by assumption) (by assumption) (by assumption)]; rfl) | rw [lte_ok (by omega) (by assumption) (by assumption) (by assumption) (by assumption) (by assumption)] | (rw [ltv_bad (lbad1 (by assumption))]; rfl) | rw [lte_bad (by omega) (lbad1 (by assumption))] | (rw [ltv_bad (lbad2 (by assumption))]; rfl) | rw [lte_bad (by omega) (lbad2 (by assumption))] | (rw [ltv_bad (lbad3 (by assumption))]; rfl) | rw [lte_bad (by omega) (lbad3 (by assumption))] | (rw [ltv_bad (lbad4 (by assumption))]; rfl) | rw [lte_bad (by omega) (lbad4 (by assumption))] | (rw [ltv_bad (lbad5 (by assumption))]; rfl) | rw [lte_bad (by omega) (lbad5 (by assumption))]) ?_
   exact T_fin () (by first | trivial | omega | (simp; done)) (resct 0 rfl rfl rfl Try.underlying33 rfl (fwz (n := 8) kr sd) rfl) [] ⟨by decide, rfl⟩ rfl
  ·
   have hc_3 := of_decide_eq_false hc_3
   refine T_skip ?_
   refine Tsr hF rfl ?_
   refine lm rfl rfl rfl rfl rfl ?_
   refine L_op rfl (op_cn (fun w hw => lwords_f b 8 A n c w (hok_cons ((src_rd 1 rfl) w hw) (hok_nil w)) sd sd sd) (enters_of Try.func37 kr rfl) rfl rfl rfl rfl rfl (fun t4 q5 => ?_))
   obtain ⟨B6, d7⟩ := t4
   refine la rfl rfl rfl rfl rfl ?_
   refine L_nil ?_
   refine T_seq ?_
   refine Tsr hF rfl ?_
   refine lm rfl rfl rfl rfl rfl ?_
   refine lo rfl (pr_ixs1 (j := 0) (src_none (src_row 0 rfl)) sd Try.underlying69 kr rfl rfl rfl) rfl rfl ?_
   refine lq rfl (ld_src (m := 0) (src_row 0 rfl) (get64 sd) Try.underlying30 rfl rfl rfl) rfl rfl ?_
   refine lo rfl (pr_cmp (bo := .lss) (cm_lt64 (ath (wds b 8) 0) (1#64)) rfl rfl rfl rfl) rfl rfl ?_
   refine lm rfl rfl rfl rfl rfl ?_
   rcases Bool.eq_false_or_eq_true (decide ((ath (wds b 8) 0) < 1#64)) with hc_8 | hc_8
   ·
    refine T_slot 21 (.bool (decide ((ath (wds b 8) 0) < 1#64))) (.bool true) rfl (congrArg _ hc_8) ?_
    refine T_slot 20 (.bool (decide ((ath (wds b 8) 0) < 1#64))) (.bool true) rfl (congrArg _ hc_8) ?_
    have hc_8 := of_decide_eq_true hc_8
    refine L_skip rfl rfl rfl ?_
    refine L_skip rfl rfl rfl ?_
    refine L_skip rfl rfl rfl ?_
    refine L_skip rfl rfl rfl ?_
    refine lo rfl (pr_pick_t rfl rfl rfl) rfl rfl ?_
    refine lm rfl rfl rfl rfl rfl ?_
    refine L_skip rfl rfl rfl ?_
    refine L_skip rfl rfl rfl ?_
    refine L_skip rfl rfl rfl ?_
    refine L_skip rfl rfl rfl ?_
    refine lo rfl (pr_pick_t rfl rfl rfl) rfl rfl ?_
    refine lm rfl rfl rfl rfl rfl ?_
    refine L_skip rfl rfl rfl ?_
    refine L_skip rfl rfl rfl ?_
    refine L_skip rfl rfl rfl ?_
    refine L_skip rfl rfl rfl ?_
    refine lo rfl (pr_pick_t rfl rfl rfl) rfl rfl ?_
    refine lm rfl rfl rfl rfl rfl ?_
    refine L_skip rfl rfl rfl ?_
    refine L_skip rfl rfl rfl ?_
    refine L_skip rfl rfl rfl ?_
    refine L_skip rfl rfl rfl ?_
    refine lo rfl (pr_pick_t rfl rfl rfl) rfl rfl ?_
    refine L_nil ?_
    refine T_cond_t rfl ?_
    refine Tsr hF rfl ?_
    refine lo rfl (pr_build (qs := []) (v := .agg [(.int .i64 ((0 : Nat) : Int)), (.int .i64 ((0 : Nat) : Int)), (.int .i64 ((0 : Nat) : Int)), (b64 (0#64)), (.int .i64 ((0 : Nat) : Int)), (b64 (0#64)), (b64 (0#64)), (b64 (0#64))].toArray) (fun _ => by kernel_rfl) rfl rfl) rfl rfl ?_
    refine L_op rfl (op_sto (n := 8) (vs := [(.int .i64 ((0 : Nat) : Int)), (.int .i64 ((0 : Nat) : Int)), (.int .i64 ((0 : Nat) : Int)), (b64 (0#64)), (.int .i64 ((0 : Nat) : Int)), (b64 (0#64)), (b64 (0#64)), (b64 (0#64))]) 1 rfl rfl kr (by simp [Value.oneCell']) kr kr rfl rfl rfl rfl ?_)
    refine la rfl rfl rfl rfl rfl ?_
    refine L_nil ?_
    refine T_ret ?_
    refine T_as 0 _ (.blk g1 33 (ltv b)) rfl (by first | rfl | (rw [ltv_short (by omega)]; rfl) | (rw [ltv_long (by omega)]; rfl) | rw [lte_short (by omega)] | rw [lte_long (by omega)] | (rw [ltv_ok (by omega) (by assumption) (by assumption) (by assumption) (by assumption) (by assumption)]; rfl) | rw [lte_ok (by omega) (by assumption) (by assumption) (by assumption) (by assumption) (by assumption)] | (rw [ltv_bad (lbad1 (by assumption))]; rfl) | rw [lte_bad (by omega) (lbad1 (by assumption))] | (rw [ltv_bad (lbad2 (by assumption))]; rfl) | rw [lte_bad (by omega) (lbad2 (by assumption))] | (rw [ltv_bad (lbad3 (by assumption))]; rfl) | rw [lte_bad (by omega) (lbad3 (by assumption))] | (rw [ltv_bad (lbad4 (by assumption))]; rfl) | rw [lte_bad (by omega) (lbad4 (by assumption))] | (rw [ltv_bad (lbad5 (by assumption))]; rfl) | rw [lte_bad (by omega) (lbad5 (by assumption))]) ?_
    refine T_slot 3 (.int .i64 ((4 : Nat) : Int)) (.int .i64 (((lte b) : Nat) : Int)) rfl (by first | rfl | (rw [ltv_short (by omega)]; rfl) | (rw [ltv_long (by omega)]; rfl) | rw [lte_short (by omega)] | rw [lte_long (by omega)] | (rw [ltv_ok (by omega) (by assumption) (by assumption) (by assumption) (by assumption) (by assumption)]; rfl) | rw [lte_ok (by omega) (by assumption) (by assumption) (by assumption) (by assumption) (by assumption)] | (rw [ltv_bad (lbad1 (by assumption))]; rfl) | rw [lte_bad (by omega) (lbad1 (by assumption))] | (rw [ltv_bad (lbad2 (by assumption))]; rfl) | rw [lte_bad (by omega) (lbad2 (by assumption))] | (rw [ltv_bad (lbad3 (by assumption))]; rfl) | rw [lte_bad (by omega) (lbad3 (by assumption))] | (rw [ltv_bad (lbad4 (by assumption))]; rfl) | rw [lte_bad (by omega) (lbad4 (by assumption))] | (rw [ltv_bad (lbad5 (by assumption))]; rfl) | rw [lte_bad (by omega) (lbad5 (by assumption))]) ?_
    exact T_fin () (by first | trivial | omega | (simp; done)) (resct 0 rfl rfl rfl Try.underlying33 rfl (fwz (n := 8) kr sd) rfl) [] ⟨by decide, rfl⟩ rfl
   ·
    refine T_slot 21 (.bool (decide ((ath (wds b 8) 0) < 1#64))) (.bool false) rfl (congrArg _ hc_8) ?_
    refine T_slot 20 (.bool (decide ((ath (wds b 8) 0) < 1#64))) (.bool false) rfl (congrArg _ hc_8) ?_
    have hc_8 := of_decide_eq_false hc_8
    refine lm rfl rfl rfl rfl rfl ?_
    refine lo rfl (pr_ixs1 (j := 0) (src_none (src_row 0 rfl)) sd Try.underlying69 kr rfl rfl rfl) rfl rfl ?_
    refine lq rfl (ld_src (m := 0) (src_row 0 rfl) (get64 sd) Try.underlying30 rfl rfl rfl) rfl rfl ?_
    refine lo rfl (pr_cmp (bo := .gtr) (cm_lt64 (5#64) (ath (wds b 8) 0)) rfl rfl rfl rfl) rfl rfl ?_
    refine lo rfl (pr_pick_f rfl rfl rfl) rfl rfl ?_
    refine lm rfl rfl rfl rfl rfl ?_
    rcases Bool.eq_false_or_eq_true (decide (5#64 < (ath (wds b 8) 0))) with hc_9 | hc_9
    ·
     refine T_slot 27 (.bool (decide (5#64 < (ath (wds b 8) 0)))) (.bool true) rfl (congrArg _ hc_9) ?_
     refine T_slot 25 (.bool (decide (5#64 < (ath (wds b 8) 0)))) (.bool true) rfl (congrArg _ hc_9) ?_
     refine T_slot 26 (.bool (decide (5#64 < (ath (wds b 8) 0)))) (.bool true) rfl (congrArg _ hc_9) ?_
     have hc_9 := of_decide_eq_true hc_9
     refine L_skip rfl rfl rfl ?_
     refine L_skip rfl rfl rfl ?_
     refine L_skip rfl rfl rfl ?_
     refine L_skip rfl rfl rfl ?_
     refine lo rfl (pr_pick_t rfl rfl rfl) rfl rfl ?_
     refine lm rfl rfl rfl rfl rfl ?_
     refine L_skip rfl rfl rfl ?_
     refine L_skip rfl rfl rfl ?_
     refine L_skip rfl rfl rfl ?_
     refine L_skip rfl rfl rfl ?_
     refine lo rfl (pr_pick_t rfl rfl rfl) rfl rfl ?_
     refine lm rfl rfl rfl rfl rfl ?_
     refine L_skip rfl rfl rfl ?_
     refine L_skip rfl rfl rfl ?_
     refine L_skip rfl rfl rfl ?_
     refine L_skip rfl rfl rfl ?_
     refine lo rfl (pr_pick_t rfl rfl rfl) rfl rfl ?_
     refine L_nil ?_
     refine T_cond_t rfl ?_
     refine Tsr hF rfl ?_
     refine lo rfl (pr_build (qs := []) (v := .agg [(.int .i64 ((0 : Nat) : Int)), (.int .i64 ((0 : Nat) : Int)), (.int .i64 ((0 : Nat) : Int)), (b64 (0#64)), (.int .i64 ((0 : Nat) : Int)), (b64 (0#64)), (b64 (0#64)), (b64 (0#64))].toArray) (fun _ => by kernel_rfl) rfl rfl) rfl rfl ?_
     refine L_op rfl (op_sto (n := 8) (vs := [(.int .i64 ((0 : Nat) : Int)), (.int .i64 ((0 : Nat) : Int)), (.int .i64 ((0 : Nat) : Int)), (b64 (0#64)), (.int .i64 ((0 : Nat) : Int)), (b64 (0#64)), (b64 (0#64)), (b64 (0#64))]) 1 rfl rfl kr (by simp [Value.oneCell']) kr kr rfl rfl rfl rfl ?_)
     refine la rfl rfl rfl rfl rfl ?_
     refine L_nil ?_
     refine T_ret ?_
     refine T_as 0 _ (.blk g1 33 (ltv b)) rfl (by first | rfl | (rw [ltv_short (by omega)]; rfl) | (rw [ltv_long (by omega)]; rfl) | rw [lte_short (by omega)] | rw [lte_long (by omega)] | (rw [ltv_ok (by omega) (by assumption) (by assumption) (by assumption) (by assumption) (by assumption)]; rfl) | rw [lte_ok (by omega) (by assumption) (by assumption) (by assumption) (by assumption) (by assumption)] | (rw [ltv_bad (lbad1 (by assumption))]; rfl) | rw [lte_bad (by omega) (lbad1 (by assumption))] | (rw [ltv_bad (lbad2 (by assumption))]; rfl) | rw [lte_bad (by omega) (lbad2 (by assumption))] | (rw [ltv_bad (lbad3 (by assumption))]; rfl) | rw [lte_bad (by omega) (lbad3 (by assumption))] | (rw [ltv_bad (lbad4 (by assumption))]; rfl) | rw [lte_bad (by omega) (lbad4 (by assumption))] | (rw [ltv_bad (lbad5 (by assumption))]; rfl) | rw [lte_bad (by omega) (lbad5 (by assumption))]) ?_
     refine T_slot 3 (.int .i64 ((4 : Nat) : Int)) (.int .i64 (((lte b) : Nat) : Int)) rfl (by first | rfl | (rw [ltv_short (by omega)]; rfl) | (rw [ltv_long (by omega)]; rfl) | rw [lte_short (by omega)] | rw [lte_long (by omega)] | (rw [ltv_ok (by omega) (by assumption) (by assumption) (by assumption) (by assumption) (by assumption)]; rfl) | rw [lte_ok (by omega) (by assumption) (by assumption) (by assumption) (by assumption) (by assumption)] | (rw [ltv_bad (lbad1 (by assumption))]; rfl) | rw [lte_bad (by omega) (lbad1 (by assumption))] | (rw [ltv_bad (lbad2 (by assumption))]; rfl) | rw [lte_bad (by omega) (lbad2 (by assumption))] | (rw [ltv_bad (lbad3 (by assumption))]; rfl) | rw [lte_bad (by omega) (lbad3 (by assumption))] | (rw [ltv_bad (lbad4 (by assumption))]; rfl) | rw [lte_bad (by omega) (lbad4 (by assumption))] | (rw [ltv_bad (lbad5 (by assumption))]; rfl) | rw [lte_bad (by omega) (lbad5 (by assumption))]) ?_
     exact T_fin () (by first | trivial | omega | (simp; done)) (resct 0 rfl rfl rfl Try.underlying33 rfl (fwz (n := 8) kr sd) rfl) [] ⟨by decide, rfl⟩ rfl
    ·
     refine T_slot 27 (.bool (decide (5#64 < (ath (wds b 8) 0)))) (.bool false) rfl (congrArg _ hc_9) ?_
     refine T_slot 25 (.bool (decide (5#64 < (ath (wds b 8) 0)))) (.bool false) rfl (congrArg _ hc_9) ?_
     refine T_slot 26 (.bool (decide (5#64 < (ath (wds b 8) 0)))) (.bool false) rfl (congrArg _ hc_9) ?_
     have hc_9 := of_decide_eq_false hc_9
     refine lm rfl rfl rfl rfl rfl ?_
     refine lo rfl (pr_ixs1 (j := 1) (src_none (src_row 0 rfl)) sd Try.underlying69 kr rfl rfl rfl) rfl rfl ?_
     refine lq rfl (ld_src (m := 1) (src_row 0 rfl) (get64 sd) Try.underlying30 rfl rfl rfl) rfl rfl ?_
     refine lo rfl (pr_cmp (bo := .gtr) (cm_lt64 (4#64) (ath (wds b 8) 1)) rfl rfl rfl rfl) rfl rfl ?_
     refine lo rfl (pr_pick_f rfl rfl rfl) rfl rfl ?_
     refine lm rfl rfl rfl rfl rfl ?_
     rcases Bool.eq_false_or_eq_true (decide (4#64 < (ath (wds b 8) 1))) with hc_10 | hc_10
     ·
      refine T_slot 33 (.bool (decide (4#64 < (ath (wds b 8) 1)))) (.bool true) rfl (congrArg _ hc_10) ?_
      refine T_slot 31 (.bool (decide (4#64 < (ath (wds b 8) 1)))) (.bool true) rfl (congrArg _ hc_10) ?_
      refine T_slot 32 (.bool (decide (4#64 < (ath (wds b 8) 1)))) (.bool true) rfl (congrArg _ hc_10) ?_
      have hc_10 := of_decide_eq_true hc_10
      refine L_skip rfl rfl rfl ?_
      refine L_skip rfl rfl rfl ?_
      refine L_skip rfl rfl rfl ?_
      refine L_skip rfl rfl rfl ?_
      refine lo rfl (pr_pick_t rfl rfl rfl) rfl rfl ?_
      refine lm rfl rfl rfl rfl rfl ?_
      refine L_skip rfl rfl rfl ?_
      refine L_skip rfl rfl rfl ?_
      refine L_skip rfl rfl rfl ?_
      refine L_skip rfl rfl rfl ?_
      refine lo rfl (pr_pick_t rfl rfl rfl) rfl rfl ?_
      refine L_nil ?_
      refine T_cond_t rfl ?_
      refine Tsr hF rfl ?_
      refine lo rfl (pr_build (qs := []) (v := .agg [(.int .i64 ((0 : Nat) : Int)), (.int .i64 ((0 : Nat) : Int)), (.int .i64 ((0 : Nat) : Int)), (b64 (0#64)), (.int .i64 ((0 : Nat) : Int)), (b64 (0#64)), (b64 (0#64)), (b64 (0#64))].toArray) (fun _ => by kernel_rfl) rfl rfl) rfl rfl ?_
      refine L_op rfl (op_sto (n := 8) (vs := [(.int .i64 ((0 : Nat) : Int)), (.int .i64 ((0 : Nat) : Int)), (.int .i64 ((0 : Nat) : Int)), (b64 (0#64)), (.int .i64 ((0 : Nat) : Int)), (b64 (0#64)), (b64 (0#64)), (b64 (0#64))]) 1 rfl rfl kr (by simp [Value.oneCell']) kr kr rfl rfl rfl rfl ?_)
      refine la rfl rfl rfl rfl rfl ?_
      refine L_nil ?_
      refine T_ret ?_
      refine T_as 0 _ (.blk g1 33 (ltv b)) rfl (by first | rfl | (rw [ltv_short (by omega)]; rfl) | (rw [ltv_long (by omega)]; rfl) | rw [lte_short (by omega)] | rw [lte_long (by omega)] | (rw [ltv_ok (by omega) (by assumption) (by assumption) (by assumption) (by assumption) (by assumption)]; rfl) | rw [lte_ok (by omega) (by assumption) (by assumption) (by assumption) (by assumption) (by assumption)] | (rw [ltv_bad (lbad1 (by assumption))]; rfl) | rw [lte_bad (by omega) (lbad1 (by assumption))] | (rw [ltv_bad (lbad2 (by assumption))]; rfl) | rw [lte_bad (by omega) (lbad2 (by assumption))] | (rw [ltv_bad (lbad3 (by assumption))]; rfl) | rw [lte_bad (by omega) (lbad3 (by assumption))] | (rw [ltv_bad (lbad4 (by assumption))]; rfl) | rw [lte_bad (by omega) (lbad4 (by assumption))] | (rw [ltv_bad (lbad5 (by assumption))]; rfl) | rw [lte_bad (by omega) (lbad5 (by assumption))]) ?_
      refine T_slot 3 (.int .i64 ((4 : Nat) : Int)) (.int .i64 (((lte b) : Nat) : Int)) rfl (by first | rfl | (rw [ltv_short (by omega)]; rfl) | (rw [ltv_long (by omega)]; rfl) | rw [lte_short (by omega)] | rw [lte_long (by omega)] | (rw [ltv_ok (by omega) (by assumption) (by assumption) (by assumption) (by assumption) (by assumption)]; rfl) | rw [lte_ok (by omega) (by assumption) (by assumption) (by assumption) (by assumption) (by assumption)] | (rw [ltv_bad (lbad1 (by assumption))]; rfl) | rw [lte_bad (by omega) (lbad1 (by assumption))] | (rw [ltv_bad (lbad2 (by assumption))]; rfl) | rw [lte_bad (by omega) (lbad2 (by assumption))] | (rw [ltv_bad (lbad3 (by assumption))]; rfl) | rw [lte_bad (by omega) (lbad3 (by assumption))] | (rw [ltv_bad (lbad4 (by assumption))]; rfl) | rw [lte_bad (by omega) (lbad4 (by assumption))] | (rw [ltv_bad (lbad5 (by assumption))]; rfl) | rw [lte_bad (by omega) (lbad5 (by assumption))]) ?_
      exact T_fin () (by first | trivial | omega | (simp; done)) (resct 0 rfl rfl rfl Try.underlying33 rfl (fwz (n := 8) kr sd) rfl) [] ⟨by decide, rfl⟩ rfl
     ·
      refine T_slot 33 (.bool (decide (4#64 < (ath (wds b 8) 1)))) (.bool false) rfl (congrArg _ hc_10) ?_
      refine T_slot 31 (.bool (decide (4#64 < (ath (wds b 8) 1)))) (.bool false) rfl (congrArg _ hc_10) ?_
      refine T_slot 32 (.bool (decide (4#64 < (ath (wds b 8) 1)))) (.bool false) rfl (congrArg _ hc_10) ?_
      have hc_10 := of_decide_eq_false hc_10
      refine lm rfl rfl rfl rfl rfl ?_
      refine lo rfl (pr_ixs1 (j := 2) (src_none (src_row 0 rfl)) sd Try.underlying69 kr rfl rfl rfl) rfl rfl ?_
      refine lq rfl (ld_src (m := 2) (src_row 0 rfl) (get64 sd) Try.underlying30 rfl rfl rfl) rfl rfl ?_
      refine lo rfl (pr_cmp (bo := .gtr) (cm_lt64 (4#64) (ath (wds b 8) 2)) rfl rfl rfl rfl) rfl rfl ?_
      refine lo rfl (pr_pick_f rfl rfl rfl) rfl rfl ?_
      refine lm rfl rfl rfl rfl rfl ?_
      rcases Bool.eq_false_or_eq_true (decide (4#64 < (ath (wds b 8) 2))) with hc_11 | hc_11
      ·
       refine T_slot 39 (.bool (decide (4#64 < (ath (wds b 8) 2)))) (.bool true) rfl (congrArg _ hc_11) ?_
       refine T_slot 37 (.bool (decide (4#64 < (ath (wds b 8) 2)))) (.bool true) rfl (congrArg _ hc_11) ?_
       refine T_slot 38 (.bool (decide (4#64 < (ath (wds b 8) 2)))) (.bool true) rfl (congrArg _ hc_11) ?_
       have hc_11 := of_decide_eq_true hc_11
       refine L_skip rfl rfl rfl ?_
       refine L_skip rfl rfl rfl ?_
       refine L_skip rfl rfl rfl ?_
       refine L_skip rfl rfl rfl ?_
       refine lo rfl (pr_pick_t rfl rfl rfl) rfl rfl ?_
       refine L_nil ?_
       refine T_cond_t rfl ?_
       refine Tsr hF rfl ?_
       refine lo rfl (pr_build (qs := []) (v := .agg [(.int .i64 ((0 : Nat) : Int)), (.int .i64 ((0 : Nat) : Int)), (.int .i64 ((0 : Nat) : Int)), (b64 (0#64)), (.int .i64 ((0 : Nat) : Int)), (b64 (0#64)), (b64 (0#64)), (b64 (0#64))].toArray) (fun _ => by kernel_rfl) rfl rfl) rfl rfl ?_
       refine L_op rfl (op_sto (n := 8) (vs := [(.int .i64 ((0 : Nat) : Int)), (.int .i64 ((0 : Nat) : Int)), (.int .i64 ((0 : Nat) : Int)), (b64 (0#64)), (.int .i64 ((0 : Nat) : Int)), (b64 (0#64)), (b64 (0#64)), (b64 (0#64))]) 1 rfl rfl kr (by simp [Value.oneCell']) kr kr rfl rfl rfl rfl ?_)
       refine la rfl rfl rfl rfl rfl ?_
       refine L_nil ?_
       refine T_ret ?_
       refine T_as 0 _ (.blk g1 33 (ltv b)) rfl (by first | rfl | (rw [ltv_short (by omega)]; rfl) | (rw [ltv_long (by omega)]; rfl) | rw [lte_short (by omega)] | rw [lte_long (by omega)] | (rw [ltv_ok (by omega) (by assumption) (by assumption) (by assumption) (by assumption) (by assumption)]; rfl) | rw [lte_ok (by omega) (by assumption) (by assumption) (by assumption) (by assumption) (by assumption)] | (rw [ltv_bad (lbad1 (by assumption))]; rfl) | rw [lte_bad (by omega) (lbad1 (by assumption))] | (rw [ltv_bad (lbad2 (by assumption))]; rfl) | rw [lte_bad (by omega) (lbad2 (by assumption))] | (rw [ltv_bad (lbad3 (by assumption))]; rfl) | rw [lte_bad (by omega) (lbad3 (by assumption))] | (rw [ltv_bad (lbad4 (by assumption))]; rfl) | rw [lte_bad (by omega) (lbad4 (by assumption))] | (rw [ltv_bad (lbad5 (by assumption))]; rfl) | rw [lte_bad (by omega) (lbad5 (by assumption))]) ?_
       refine T_slot 3 (.int .i64 ((4 : Nat) : Int)) (.int .i64 (((lte b) : Nat) : Int)) rfl (by first | rfl | (rw [ltv_short (by omega)]; rfl) | (rw [ltv_long (by omega)]; rfl) | rw [lte_short (by omega)] | rw [lte_long (by omega)] | (rw [ltv_ok (by omega) (by assumption) (by assumption) (by assumption) (by assumption) (by assumption)]; rfl) | rw [lte_ok (by omega) (by assumption) (by assumption) (by assumption) (by assumption) (by assumption)] | (rw [ltv_bad (lbad1 (by assumption))]; rfl) | rw [lte_bad (by omega) (lbad1 (by assumption))] | (rw [ltv_bad (lbad2 (by assumption))]; rfl) | rw [lte_bad (by omega) (lbad2 (by assumption))] | (rw [ltv_bad (lbad3 (by assumption))]; rfl) | rw [lte_bad (by omega) (lbad3 (by assumption))] | (rw [ltv_bad (lbad4 (by assumption))]; rfl) | rw [lte_bad (by omega) (lbad4 (by assumption))] | (rw [ltv_bad (lbad5 (by assumption))]; rfl) | rw [lte_bad (by omega) (lbad5 (by assumption))]) ?_
       exact T_fin () (by first | trivial | omega | (simp; done)) (resct 0 rfl rfl rfl Try.underlying33 rfl (fwz (n := 8) kr sd) rfl) [] ⟨by decide, rfl⟩ rfl
      ·
       refine T_slot 39 (.bool (decide (4#64 < (ath (wds b 8) 2)))) (.bool false) rfl (congrArg _ hc_11) ?_
       refine T_slot 37 (.bool (decide (4#64 < (ath (wds b 8) 2)))) (.bool false) rfl (congrArg _ hc_11) ?_
       refine T_slot 38 (.bool (decide (4#64 < (ath (wds b 8) 2)))) (.bool false) rfl (congrArg _ hc_11) ?_
       have hc_11 := of_decide_eq_false hc_11
       refine lm rfl rfl rfl rfl rfl ?_
       refine lo rfl (pr_ixs1 (j := 4) (src_none (src_row 0 rfl)) sd Try.underlying69 kr rfl rfl rfl) rfl rfl ?_
       refine lq rfl (ld_src (m := 4) (src_row 0 rfl) (get64 sd) Try.underlying30 rfl rfl rfl) rfl rfl ?_
       refine lo rfl (pr_cmp (bo := .gtr) (cm_lt64 (4000#64) (ath (wds b 8) 4)) rfl rfl rfl rfl) rfl rfl ?_
       refine lo rfl (pr_pick_f rfl rfl rfl) rfl rfl ?_
       refine L_nil ?_
       refine T_cond (decide (4000#64 < (ath (wds b 8) 4))) rfl (fun hc_12 => ?_) (fun hc_12 => ?_)
       ·
        have hc_12 := of_decide_eq_true hc_12
        refine Tsr hF rfl ?_
        refine lo rfl (pr_build (qs := []) (v := .agg [(.int .i64 ((0 : Nat) : Int)), (.int .i64 ((0 : Nat) : Int)), (.int .i64 ((0 : Nat) : Int)), (b64 (0#64)), (.int .i64 ((0 : Nat) : Int)), (b64 (0#64)), (b64 (0#64)), (b64 (0#64))].toArray) (fun _ => by kernel_rfl) rfl rfl) rfl rfl ?_
        refine L_op rfl (op_sto (n := 8) (vs := [(.int .i64 ((0 : Nat) : Int)), (.int .i64 ((0 : Nat) : Int)), (.int .i64 ((0 : Nat) : Int)), (b64 (0#64)), (.int .i64 ((0 : Nat) : Int)), (b64 (0#64)), (b64 (0#64)), (b64 (0#64))]) 1 rfl rfl kr (by simp [Value.oneCell']) kr kr rfl rfl rfl rfl ?_)
        refine la rfl rfl rfl rfl rfl ?_
        refine L_nil ?_
        refine T_ret ?_
        refine T_as 0 _ (.blk g1 33 (ltv b)) rfl (by first | rfl | (rw [ltv_short (by omega)]; rfl) | (rw [ltv_long (by omega)]; rfl) | rw [lte_short (by omega)] | rw [lte_long (by omega)] | (rw [ltv_ok (by omega) (by assumption) (by assumption) (by assumption) (by assumption) (by assumption)]; rfl) | rw [lte_ok (by omega) (by assumption) (by assumption) (by assumption) (by assumption) (by assumption)] | (rw [ltv_bad (lbad1 (by assumption))]; rfl) | rw [lte_bad (by omega) (lbad1 (by assumption))] | (rw [ltv_bad (lbad2 (by assumption))]; rfl) | rw [lte_bad (by omega) (lbad2 (by assumption))] | (rw [ltv_bad (lbad3 (by assumption))]; rfl) | rw [lte_bad (by omega) (lbad3 (by assumption))] | (rw [ltv_bad (lbad4 (by assumption))]; rfl) | rw [lte_bad (by omega) (lbad4 (by assumption))] | (rw [ltv_bad (lbad5 (by assumption))]; rfl) | rw [lte_bad (by omega) (lbad5 (by assumption))]) ?_
        refine T_slot 3 (.int .i64 ((4 : Nat) : Int)) (.int .i64 (((lte b) : Nat) : Int)) rfl (by first | rfl | (rw [ltv_short (by omega)]; rfl) | (rw [ltv_long (by omega)]; rfl) | rw [lte_short (by omega)] | rw [lte_long (by omega)] | (rw [ltv_ok (by omega) (by assumption) (by assumption) (by assumption) (by assumption) (by assumption)]; rfl) | rw [lte_ok (by omega) (by assumption) (by assumption) (by assumption) (by assumption) (by assumption)] | (rw [ltv_bad (lbad1 (by assumption))]; rfl) | rw [lte_bad (by omega) (lbad1 (by assumption))] | (rw [ltv_bad (lbad2 (by assumption))]; rfl) | rw [lte_bad (by omega) (lbad2 (by assumption))] | (rw [ltv_bad (lbad3 (by assumption))]; rfl) | rw [lte_bad (by omega) (lbad3 (by assumption))] | (rw [ltv_bad (lbad4 (by assumption))]; rfl) | rw [lte_bad (by omega) (lbad4 (by assumption))] | (rw [ltv_bad (lbad5 (by assumption))]; rfl) | rw [lte_bad (by omega) (lbad5 (by assumption))]) ?_
        exact T_fin () (by first | trivial | omega | (simp; done)) (resct 0 rfl rfl rfl Try.underlying33 rfl (fwz (n := 8) kr sd) rfl) [] ⟨by decide, rfl⟩ rfl
       ·
        have hc_12 := of_decide_eq_false hc_12
        refine T_skip ?_
        refine T_seq ?_
        refine T_regD [.row (.slice B6 8 d7) 30 1 8 ((wds b 8).map b64), .blk g1 33 [(.int .i64 ((0 : Nat) : Int)), (.int .i64 ((0 : Nat) : Int)), (.int .i64 ((0 : Nat) : Int)), (b64 (0#64)), (.int .i64 ((0 : Nat) : Int)), (b64 (0#64)), (b64 (0#64)), (b64 (0#64))], .rd A 1 n c (b.map b8)] 30 32 #[false, false, false, false, false, false, false, false, false, false, false, false, false, false, false, false, false, false, false, false, false, false, false, false, false, false, false, false, false, false, false, false] hF kr kr ?_
        refine D_pure (i := 0) [0, 1, 2] rfl kr rfl (pr_move rfl rfl) (.inr rfl) rfl rfl ?_
        have hb0 : (ath (wds b 8) 0).toNat ≤ 5 := nle64 (show ¬ 5#64 < ath (wds b 8) 0 by assumption)
        have hb1 : (ath (wds b 8) 1).toNat ≤ 4 := nle64 (show ¬ 4#64 < ath (wds b 8) 1 by assumption)
        have hb2 : (ath (wds b 8) 2).toNat ≤ 4 := nle64 (show ¬ 4#64 < ath (wds b 8) 2 by assumption)
        have hb3 : (ath (wds b 8) 4).toNat ≤ 4000 := nle64 (show ¬ 4000#64 < ath (wds b 8) 4 by assumption)
        refine D_pure (i := 1) [0, 1, 2] rfl kr rfl (pr_ixs1 (j := 0) (src_none (src_row 0 rfl)) sd Try.underlying69 kr rfl rfl rfl) (.inr rfl) rfl rfl ?_
        refine D_pure (i := 4) [0, 1, 2] rfl kr rfl (pr_move rfl rfl) (.inr rfl) rfl rfl ?_
        refine D_pure (i := 5) [0, 1, 2] rfl kr rfl (pr_ixs1 (j := 1) (src_none (src_row 0 rfl)) sd Try.underlying69 kr rfl rfl rfl) (.inr rfl) rfl rfl ?_
        refine D_pure (i := 8) [0, 1, 2] rfl kr rfl (pr_move rfl rfl) (.inr rfl) rfl rfl ?_
        refine D_pure (i := 9) [0, 1, 2] rfl kr rfl (pr_ixs1 (j := 2) (src_none (src_row 0 rfl)) sd Try.underlying69 kr rfl rfl rfl) (.inr rfl) rfl rfl ?_
        refine D_pure (i := 12) [0, 1, 2] rfl kr rfl (pr_move rfl rfl) (.inr rfl) rfl rfl ?_
        refine D_pure (i := 13) [0, 1, 2] rfl kr rfl (pr_ixs1 (j := 3) (src_none (src_row 0 rfl)) sd Try.underlying69 kr rfl rfl rfl) (.inr rfl) rfl rfl ?_
        refine D_pure (i := 15) [0, 1, 2] rfl kr rfl (pr_move rfl rfl) (.inr rfl) rfl rfl ?_
        refine D_pure (i := 16) [0, 1, 2] rfl kr rfl (pr_ixs1 (j := 4) (src_none (src_row 0 rfl)) sd Try.underlying69 kr rfl rfl rfl) (.inr rfl) rfl rfl ?_
        refine D_pure (i := 19) [0, 1, 2] rfl kr rfl (pr_move rfl rfl) (.inr rfl) rfl rfl ?_
        refine D_pure (i := 20) [0, 1, 2] rfl kr rfl (pr_ixs1 (j := 5) (src_none (src_row 0 rfl)) sd Try.underlying69 kr rfl rfl rfl) (.inr rfl) rfl rfl ?_
        refine D_pure (i := 22) [0, 1, 2] rfl kr rfl (pr_move rfl rfl) (.inr rfl) rfl rfl ?_
        refine D_pure (i := 23) [0, 1, 2] rfl kr rfl (pr_ixs1 (j := 6) (src_none (src_row 0 rfl)) sd Try.underlying69 kr rfl rfl rfl) (.inr rfl) rfl rfl ?_
        refine D_pure (i := 25) [0, 1, 2] rfl kr rfl (pr_move rfl rfl) (.inr rfl) rfl rfl ?_
        refine D_pure (i := 26) [0, 1, 2] rfl kr rfl (pr_ixs1 (j := 7) (src_none (src_row 0 rfl)) sd Try.underlying69 kr rfl rfl rfl) (.inr rfl) rfl rfl ?_
        refine D_take (i := 2) [0, 1, 2] rfl kr rfl (ld_src (m := 0) (src_row 0 rfl) (get64 sd) Try.underlying30 rfl rfl rfl) rfl rfl rfl ?_
        refine D_pure (i := 3) [0, 1, 2] rfl kr rfl (pr_cv (n64i sd) Try.underlying30 Try.underlying3 rfl rfl) (.inr rfl) rfl rfl ?_
        refine D_take (i := 6) [0, 1, 2] rfl kr rfl (ld_src (m := 1) (src_row 0 rfl) (get64 sd) Try.underlying30 rfl rfl rfl) rfl rfl rfl ?_
        refine D_pure (i := 7) [0, 1, 2] rfl kr rfl (pr_cv (n64i sd) Try.underlying30 Try.underlying3 rfl rfl) (.inr rfl) rfl rfl ?_
        refine D_take (i := 10) [0, 1, 2] rfl kr rfl (ld_src (m := 2) (src_row 0 rfl) (get64 sd) Try.underlying30 rfl rfl rfl) rfl rfl rfl ?_
        refine D_pure (i := 11) [0, 1, 2] rfl kr rfl (pr_cv (n64i sd) Try.underlying30 Try.underlying3 rfl rfl) (.inr rfl) rfl rfl ?_
        refine D_take (i := 14) [0, 1, 2] rfl kr rfl (ld_src (m := 3) (src_row 0 rfl) (get64 sd) Try.underlying30 rfl rfl rfl) rfl rfl rfl ?_
        refine D_take (i := 17) [0, 1, 2] rfl kr rfl (ld_src (m := 4) (src_row 0 rfl) (get64 sd) Try.underlying30 rfl rfl rfl) rfl rfl rfl ?_
        refine D_pure (i := 18) [0, 1, 2] rfl kr rfl (pr_cv (n64i sd) Try.underlying30 Try.underlying3 rfl rfl) (.inr rfl) rfl rfl ?_
        refine D_take (i := 21) [0, 1, 2] rfl kr rfl (ld_src (m := 5) (src_row 0 rfl) (get64 sd) Try.underlying30 rfl rfl rfl) rfl rfl rfl ?_
        refine D_take (i := 24) [0, 1, 2] rfl kr rfl (ld_src (m := 6) (src_row 0 rfl) (get64 sd) Try.underlying30 rfl rfl rfl) rfl rfl rfl ?_
        refine D_take (i := 27) [0, 1, 2] rfl kr rfl (ld_src (m := 7) (src_row 0 rfl) (get64 sd) Try.underlying30 rfl rfl rfl) rfl rfl rfl ?_
        refine D_pure (i := 28) [0, 1, 2] rfl kr rfl (pr_build (qs := [(0, (b64 (ath (wds b 8) 6))), (1, (b64 (ath (wds b 8) 7)))]) (v := .agg [(b64 (ath (wds b 8) 6)), (b64 (ath (wds b 8) 7))].toArray) (fun _ => by kernel_rfl) rfl rfl) (.inr rfl) rfl rfl ?_
        refine D_pure (i := 29) [0, 1, 2] rfl kr rfl (pr_build (qs := [(0, (.int .i64 (((ath (wds b 8) 0).toNat : Nat) : Int))), (1, (.int .i64 (((ath (wds b 8) 1).toNat : Nat) : Int))), (2, (.int .i64 (((ath (wds b 8) 2).toNat : Nat) : Int))), (3, (b64 (ath (wds b 8) 3))), (4, (.int .i64 (((ath (wds b 8) 4).toNat : Nat) : Int))), (5, (b64 (ath (wds b 8) 5))), (6, (.agg [(b64 (ath (wds b 8) 6)), (b64 (ath (wds b 8) 7))].toArray))]) (v := .agg [(.int .i64 (((ath (wds b 8) 0).toNat : Nat) : Int)), (.int .i64 (((ath (wds b 8) 1).toNat : Nat) : Int)), (.int .i64 (((ath (wds b 8) 2).toNat : Nat) : Int)), (b64 (ath (wds b 8) 3)), (.int .i64 (((ath (wds b 8) 4).toNat : Nat) : Int)), (b64 (ath (wds b 8) 5)), (b64 (ath (wds b 8) 6)), (b64 (ath (wds b 8) 7))].toArray) (fun _ => by kernel_rfl) rfl rfl) (.inr rfl) rfl rfl ?_
        refine D_one 30 _ rfl kr rfl (op_sto (n := 8) (vs := [(.int .i64 (((ath (wds b 8) 0).toNat : Nat) : Int)), (.int .i64 (((ath (wds b 8) 1).toNat : Nat) : Int)), (.int .i64 (((ath (wds b 8) 2).toNat : Nat) : Int)), (b64 (ath (wds b 8) 3)), (.int .i64 (((ath (wds b 8) 4).toNat : Nat) : Int)), (b64 (ath (wds b 8) 5)), (b64 (ath (wds b 8) 6)), (b64 (ath (wds b 8) 7))]) 1 rfl rfl kr (by simp [Value.oneCell']) kr kr rfl rfl rfl rfl ?_)
        refine D_past kr ?_
        refine D_pure (i := 31) [] rfl kr rfl (pr_assign rfl rfl) (.inl kr) rfl rfl ?_
        refine D_done kr ?_
        refine T_ret ?_
        refine T_as 0 _ (.blk g1 33 (ltv b)) rfl (by first | rfl | (rw [ltv_short (by omega)]; rfl) | (rw [ltv_long (by omega)]; rfl) | rw [lte_short (by omega)] | rw [lte_long (by omega)] | (rw [ltv_ok (by omega) (by assumption) (by assumption) (by assumption) (by assumption) (by assumption)]; rfl) | rw [lte_ok (by omega) (by assumption) (by assumption) (by assumption) (by assumption) (by assumption)] | (rw [ltv_bad (lbad1 (by assumption))]; rfl) | rw [lte_bad (by omega) (lbad1 (by assumption))] | (rw [ltv_bad (lbad2 (by assumption))]; rfl) | rw [lte_bad (by omega) (lbad2 (by assumption))] | (rw [ltv_bad (lbad3 (by assumption))]; rfl) | rw [lte_bad (by omega) (lbad3 (by assumption))] | (rw [ltv_bad (lbad4 (by assumption))]; rfl) | rw [lte_bad (by omega) (lbad4 (by assumption))] | (rw [ltv_bad (lbad5 (by assumption))]; rfl) | rw [lte_bad (by omega) (lbad5 (by assumption))]) ?_
        refine T_slot 3 (.int .i64 ((0 : Nat) : Int)) (.int .i64 (((lte b) : Nat) : Int)) rfl (by first | rfl | (rw [ltv_short (by omega)]; rfl) | (rw [ltv_long (by omega)]; rfl) | rw [lte_short (by omega)] | rw [lte_long (by omega)] | (rw [ltv_ok (by omega) (by assumption) (by assumption) (by assumption) (by assumption) (by assumption)]; rfl) | rw [lte_ok (by omega) (by assumption) (by assumption) (by assumption) (by assumption) (by assumption)] | (rw [ltv_bad (lbad1 (by assumption))]; rfl) | rw [lte_bad (by omega) (lbad1 (by assumption))] | (rw [ltv_bad (lbad2 (by assumption))]; rfl) | rw [lte_bad (by omega) (lbad2 (by assumption))] | (rw [ltv_bad (lbad3 (by assumption))]; rfl) | rw [lte_bad (by omega) (lbad3 (by assumption))] | (rw [ltv_bad (lbad4 (by assumption))]; rfl) | rw [lte_bad (by omega) (lbad4 (by assumption))] | (rw [ltv_bad (lbad5 (by assumption))]; rfl) | rw [lte_bad (by omega) (lbad5 (by assumption))]) ?_
        exact T_fin () (by first | trivial | omega | (simp; done)) (resct 0 rfl rfl rfl Try.underlying33 rfl (fwz (n := 8) kr sd) rfl) [] ⟨by decide, rfl⟩ rfl
set_option maxHeartbeats 4000000 in
theorem rltake_f (b : List (BitVec 8)) (A : Option Addr) (n : Nat) (c : Nat) (w : World) (hO : HOK [.rd A 1 n c (b.map b8)] w) (hb : b.length = n) (hn : n ≤ 1000000) : Calls Try.prog 14 [(.slice A n c)].toArray w (Ret (T := Unit) [] w (fun _ => True) (fun _ => (.tuple [(.agg (ltv b).toArray), (.int .i64 (((lte b) : Nat) : Int))].toArray)) (fun _ => [])) := by
 have hwl := wds_len b 8
 have hll := ltv_len b
 have hF : Wid Fence.wide := wid_wide
 refine enter (c := _) Try.func14 rfl [] _ [.rd A 1 n c (b.map b8)] (by rw [Try.ntmps14]; rfl) (own_rds hO rfl) ?_
 rw [Try.ntmps14]
 refine T_re [(0, (.slice A n c))] (sc rfl sn) ?_
 refine T_he [0] [.rd A 1 n c (b.map b8)] ⟨by decide, rfl⟩ ?_
 refine Tsr hF rfl ?_
 refine L_op rfl (op_alloc (z := .agg [(.int .i64 ((0 : Nat) : Int)), (.int .i64 ((0 : Nat) : Int)), (.int .i64 ((0 : Nat) : Int)), (b64 (0#64)), (.int .i64 ((0 : Nat) : Int)), (b64 (0#64)), (b64 (0#64)), (b64 (0#64))].toArray) (zs := [(.int .i64 ((0 : Nat) : Int)), (.int .i64 ((0 : Nat) : Int)), (.int .i64 ((0 : Nat) : Int)), (b64 (0#64)), (.int .i64 ((0 : Nat) : Int)), (b64 (0#64)), (b64 (0#64)), (b64 (0#64))]) kr rfl rfl rfl rfl (fun g1 => ?_))
 refine la rfl rfl rfl rfl rfl ?_
 refine L_nil ?_
 refine T_seq ?_
 refine Tsr hF rfl ?_
 refine lm rfl rfl rfl rfl rfl ?_
 refine lo rfl (pr_len_sl Try.underlying23 rfl rfl) rfl rfl ?_
 refine lo rfl (pr_cmp (bo := .lss) (nc_lt (a := n) (b := 64)) rfl rfl rfl rfl) rfl rfl ?_
 refine L_nil ?_
 refine T_cond (decide (n < 64)) rfl (fun hc_2 => ?_) (fun hc_2 => ?_)
 ·
  have hc_2 := of_decide_eq_true hc_2
  refine Tsr hF rfl ?_
  refine lo rfl (pr_build (qs := []) (v := .agg [(.int .i64 ((0 : Nat) : Int)), (.int .i64 ((0 : Nat) : Int)), (.int .i64 ((0 : Nat) : Int)), (b64 (0#64)), (.int .i64 ((0 : Nat) : Int)), (b64 (0#64)), (b64 (0#64)), (b64 (0#64))].toArray) (fun _ => by kernel_rfl) rfl rfl) rfl rfl ?_
  refine L_op rfl (op_sto (n := 8) (vs := [(.int .i64 ((0 : Nat) : Int)), (.int .i64 ((0 : Nat) : Int)), (.int .i64 ((0 : Nat) : Int)), (b64 (0#64)), (.int .i64 ((0 : Nat) : Int)), (b64 (0#64)), (b64 (0#64)), (b64 (0#64))]) 0 rfl rfl kr (by simp [Value.oneCell']) kr kr rfl rfl rfl rfl ?_)
  refine la rfl rfl rfl rfl rfl ?_
  refine L_nil ?_
  refine T_ret ?_
  refine T_as 0 _ (.blk g1 33 (ltv b)) rfl (by first | rfl | (rw [ltv_short (by omega)]; rfl) | (rw [ltv_long (by omega)]; rfl) | rw [lte_short (by omega)] | rw [lte_long (by omega)] | (rw [ltv_ok (by omega) (by assumption) (by assumption) (by assumption) (by assumption) (by assumption)]; rfl) | rw [lte_ok (by omega) (by assumption) (by assumption) (by assumption) (by assumption) (by assumption)] | (rw [ltv_bad (lbad1 (by assumption))]; rfl) | rw [lte_bad (by omega) (lbad1 (by assumption))] | (rw [ltv_bad (lbad2 (by assumption))]; rfl) | rw [lte_bad (by omega) (lbad2 (by assumption))] | (rw [ltv_bad (lbad3 (by assumption))]; rfl) | rw [lte_bad (by omega) (lbad3 (by assumption))] | (rw [ltv_bad (lbad4 (by assumption))]; rfl) | rw [lte_bad (by omega) (lbad4 (by assumption))] | (rw [ltv_bad (lbad5 (by assumption))]; rfl) | rw [lte_bad (by omega) (lbad5 (by assumption))]) ?_
  refine T_slot 3 (.int .i64 ((3 : Nat) : Int)) (.int .i64 (((lte b) : Nat) : Int)) rfl (by first | rfl | (rw [ltv_short (by omega)]; rfl) | (rw [ltv_long (by omega)]; rfl) | rw [lte_short (by omega)] | rw [lte_long (by omega)] | (rw [ltv_ok (by omega) (by assumption) (by assumption) (by assumption) (by assumption) (by assumption)]; rfl) | rw [lte_ok (by omega) (by assumption) (by assumption) (by assumption) (by assumption) (by assumption)] | (rw [ltv_bad (lbad1 (by assumption))]; rfl) | rw [lte_bad (by omega) (lbad1 (by assumption))] | (rw [ltv_bad (lbad2 (by assumption))]; rfl) | rw [lte_bad (by omega) (lbad2 (by assumption))] | (rw [ltv_bad (lbad3 (by assumption))]; rfl) | rw [lte_bad (by omega) (lbad3 (by assumption))] | (rw [ltv_bad (lbad4 (by assumption))]; rfl) | rw [lte_bad (by omega) (lbad4 (by assumption))] | (rw [ltv_bad (lbad5 (by assumption))]; rfl) | rw [lte_bad (by omega) (lbad5 (by assumption))]) ?_
  exact T_fin () (by first | trivial | omega | (simp; done)) (resct 0 rfl rfl rfl Try.underlying33 rfl (fwz (n := 8) kr sd) rfl) [] ⟨by decide, rfl⟩ rfl
 ·
  have hc_2 := of_decide_eq_false hc_2
  refine T_skip ?_
  refine T_seq ?_
  refine Tsr hF rfl ?_
  refine lm rfl rfl rfl rfl rfl ?_
  refine lo rfl (pr_len_sl Try.underlying23 rfl rfl) rfl rfl ?_
  refine lo rfl (pr_cmp (bo := .gtr) (nc_lt (a := 64) (b := n)) rfl rfl rfl rfl) rfl rfl ?_
  refine L_nil ?_
  refine T_cond (decide (64 < n)) rfl (fun hc_3 => ?_) (fun hc_3 => ?_)
  ·
   have hc_3 := of_decide_eq_true hc_3
   refine Tsr hF rfl ?_
   refine lo rfl (pr_build (qs := []) (v := .agg [(.int .i64 ((0 : Nat) : Int)), (.int .i64 ((0 : Nat) : Int)), (.int .i64 ((0 : Nat) : Int)), (b64 (0#64)), (.int .i64 ((0 : Nat) : Int)), (b64 (0#64)), (b64 (0#64)), (b64 (0#64))].toArray) (fun _ => by kernel_rfl) rfl rfl) rfl rfl ?_
   refine L_op rfl (op_sto (n := 8) (vs := [(.int .i64 ((0 : Nat) : Int)), (.int .i64 ((0 : Nat) : Int)), (.int .i64 ((0 : Nat) : Int)), (b64 (0#64)), (.int .i64 ((0 : Nat) : Int)), (b64 (0#64)), (b64 (0#64)), (b64 (0#64))]) 0 rfl rfl kr (by simp [Value.oneCell']) kr kr rfl rfl rfl rfl ?_)
   refine la rfl rfl rfl rfl rfl ?_
   refine L_nil ?_
   refine T_ret ?_
   refine T_as 0 _ (.blk g1 33 (ltv b)) rfl (by first | rfl | (rw [ltv_short (by omega)]; rfl) | (rw [ltv_long (by omega)]; rfl) | rw [lte_short (by omega)] | rw [lte_long (by omega)] | (rw [ltv_ok (by omega) (by assumption) (by assumption) (by assumption) (by assumption) (by assumption)]; rfl) | rw [lte_ok (by omega) (by assumption) (by assumption) (by assumption) (by assumption) (by assumption)] | (rw [ltv_bad (lbad1 (by assumption))]; rfl) | rw [lte_bad (by omega) (lbad1 (by assumption))] | (rw [ltv_bad (lbad2 (by assumption))]; rfl) | rw [lte_bad (by omega) (lbad2 (by assumption))] | (rw [ltv_bad (lbad3 (by assumption))]; rfl) | rw [lte_bad (by omega) (lbad3 (by assumption))] | (rw [ltv_bad (lbad4 (by assumption))]; rfl) | rw [lte_bad (by omega) (lbad4 (by assumption))] | (rw [ltv_bad (lbad5 (by assumption))]; rfl) | rw [lte_bad (by omega) (lbad5 (by assumption))]) ?_
   refine T_slot 3 (.int .i64 ((4 : Nat) : Int)) (.int .i64 (((lte b) : Nat) : Int)) rfl (by first | rfl | (rw [ltv_short (by omega)]; rfl) | (rw [ltv_long (by omega)]; rfl) | rw [lte_short (by omega)] | rw [lte_long (by omega)] | (rw [ltv_ok (by omega) (by assumption) (by assumption) (by assumption) (by assumption) (by assumption)]; rfl) | rw [lte_ok (by omega) (by assumption) (by assumption) (by assumption) (by assumption) (by assumption)] | (rw [ltv_bad (lbad1 (by assumption))]; rfl) | rw [lte_bad (by omega) (lbad1 (by assumption))] | (rw [ltv_bad (lbad2 (by assumption))]; rfl) | rw [lte_bad (by omega) (lbad2 (by assumption))] | (rw [ltv_bad (lbad3 (by assumption))]; rfl) | rw [lte_bad (by omega) (lbad3 (by assumption))] | (rw [ltv_bad (lbad4 (by assumption))]; rfl) | rw [lte_bad (by omega) (lbad4 (by assumption))] | (rw [ltv_bad (lbad5 (by assumption))]; rfl) | rw [lte_bad (by omega) (lbad5 (by assumption))]) ?_
   exact T_fin () (by first | trivial | omega | (simp; done)) (resct 0 rfl rfl rfl Try.underlying33 rfl (fwz (n := 8) kr sd) rfl) [] ⟨by decide, rfl⟩ rfl
  ·
   have hc_3 := of_decide_eq_false hc_3
   refine T_skip ?_
   refine Tsr hF rfl ?_
   refine L_op rfl (op_alloc (z := .agg [(b64 (0#64)), (b64 (0#64)), (b64 (0#64)), (b64 (0#64)), (b64 (0#64)), (b64 (0#64)), (b64 (0#64)), (b64 (0#64))].toArray) (zs := [(b64 (0#64)), (b64 (0#64)), (b64 (0#64)), (b64 (0#64)), (b64 (0#64)), (b64 (0#64)), (b64 (0#64)), (b64 (0#64))]) kr rfl rfl rfl rfl (fun g4 => ?_))
   refine L_nil ?_
   refine T_seq ?_
   refine Tsr hF rfl ?_
   refine la rfl rfl rfl rfl rfl ?_
   refine L_nil ?_
   refine T_block ?_
   refine T_as 0 _ (.blk g4 71 ((wpad b 0).map b64)) rfl (rfl) ?_
   refine T_loop (T := Nat) (fun k => k ≤ 8) (fun k => [(0, (.slice A n c)), (2, (.pointer (some ⟨g1, 0, none⟩))), (4, (.pointer (some ⟨g4, 0, none⟩))), (5, (.int .i64 ((k : Nat) : Int)))]) (fun k => [.blk g4 71 ((wpad b k).map b64), .blk g1 33 [(.int .i64 ((0 : Nat) : Int)), (.int .i64 ((0 : Nat) : Int)), (.int .i64 ((0 : Nat) : Int)), (b64 (0#64)), (.int .i64 ((0 : Nat) : Int)), (b64 (0#64)), (b64 (0#64)), (b64 (0#64))], .rd A 1 n c (b.map b8)]) (fun k => 8 - k) 0 (by first | trivial | ((try dsimp only); first | omega | (refine ⟨?_, ?_⟩ <;> omega) | (refine ⟨?_, ?_, ?_⟩ <;> omega) | (simp; done) | (simp; omega))) (sc rfl (sc rfl (sc rfl (sc rfl sn)))) [0, 1, 2] ⟨by decide, rfl⟩ ?_
   rintro k hp
   have hp : k ≤ 8 := hp
   have hwp := wpad_len b k hp
   refine T_re [(0, (.slice A n c)), (2, (.pointer (some ⟨g1, 0, none⟩))), (4, (.pointer (some ⟨g4, 0, none⟩))), (5, (.int .i64 ((k : Nat) : Int)))] (sc rfl (sc rfl (sc rfl (sc rfl sn)))) ?_
   refine T_he [0, 1, 2] [.blk g4 71 ((wpad b k).map b64), .blk g1 33 [(.int .i64 ((0 : Nat) : Int)), (.int .i64 ((0 : Nat) : Int)), (.int .i64 ((0 : Nat) : Int)), (b64 (0#64)), (.int .i64 ((0 : Nat) : Int)), (b64 (0#64)), (b64 (0#64)), (b64 (0#64))], .rd A 1 n c (b.map b8)] ⟨by decide, rfl⟩ ?_
   refine T_seq ?_
   refine Tsr hF rfl ?_
   refine lm rfl rfl rfl rfl rfl ?_
   refine lo rfl (pr_cmp (bo := .lss) (nc_lt (a := k) (b := 8)) rfl rfl rfl rfl) rfl rfl ?_
   refine L_nil ?_
   refine T_cond (decide (k < 8)) rfl (fun hc_5 => ?_) (fun hc_5 => ?_)
   ·
    have hc_5 := of_decide_eq_true hc_5
    refine T_skip ?_
    refine T_seq ?_
    refine T_block ?_
    refine T_reg hF rfl ?_
    refine lm rfl rfl rfl rfl rfl ?_
    refine lm rfl rfl rfl rfl rfl ?_
    refine lm rfl rfl rfl rfl rfl ?_
    refine lo rfl (pr_mul (nm_i64 (a := 8) (b := k) sd) rfl rfl rfl) rfl rfl ?_
    refine lm rfl rfl rfl rfl rfl ?_
    refine lo rfl (pr_mul (nm_i64 (a := 8) (b := k) sd) rfl rfl rfl) rfl rfl ?_
    refine lo rfl (pr_add (na_i64 (a := 8 * k) (b := 8) sd) rfl rfl rfl) rfl rfl ?_
    refine L_op rfl (op_slice_rd (l := 8 * k) (u := 8 * k + 8) 2 rfl sd sd Try.underlying23 kr rfl rfl ⟨_, rfl⟩ ⟨_, rfl⟩ rfl rfl (fun B6 => ?_))
    refine T_as 0 _ (.rd B6 1 ((8 * k + 8) - (8 * k)) (c - (8 * k)) ((List.take ((8 * k + 8) - (8 * k)) (List.drop (8 * k) b)).map b8)) rfl (by congr 1; simp [List.map_take, List.map_drop] <;> omega) ?_
    refine L_op rfl (op_cn (fun w hw => number_f (List.take ((8 * k + 8) - (8 * k)) (List.drop (8 * k) b)) B6 ((8 * k + 8) - (8 * k)) (c - (8 * k)) w (hok_cons ((src_rd 0 rfl) w hw) (hok_nil w)) sd sd) (enters_of Try.func38 kr rfl) rfl rfl rfl rfl rfl (fun t7 q8 => ?_))
    refine lo rfl (pr_ixa (j := k) (m' := k) sd (by omega) Try.underlying71 (z := 1) kr rfl rfl rfl) rfl rfl ?_
    refine L_op rfl (op_store (vs := [(b64 (low (List.take ((8 * k + 8) - (8 * k)) (List.drop (8 * k) b)) 8))]) (cs' := ((List.set (wpad b k) k (low (List.take ((8 * k + 8) - (8 * k)) (List.drop (8 * k) b)) 8)).map b64)) 1 rfl rfl kr (one_one rfl) (stl sd) (splice_map (f := b64) sd) rfl rfl rfl rfl ?_)
    refine L_nil ?_
    refine T_reg hF rfl ?_
    refine lm rfl rfl rfl rfl rfl ?_
    refine lo rfl (pr_add (na_i64 (a := k) (b := 1) sd) rfl rfl rfl) rfl rfl ?_
    refine la rfl rfl rfl rfl rfl ?_
    refine L_nil ?_
    refine T_as 0 _ (.blk g4 71 ((wpad b (k + 1)).map b64)) rfl (by rw [show 8 * k + 8 - 8 * k = 8 from by omega, wpad_set b k (by omega)]) ?_
    exact T_again (k + 1) (by first | trivial | ((try dsimp only); first | omega | (refine ⟨?_, ?_⟩ <;> omega) | (refine ⟨?_, ?_, ?_⟩ <;> omega) | (simp; done) | (simp; omega))) (by first | trivial | ((try dsimp only); first | omega | (refine ⟨?_, ?_⟩ <;> omega) | (refine ⟨?_, ?_, ?_⟩ <;> omega) | (simp; done) | (simp; omega))) (sc rfl (sc rfl (sc rfl (sc rfl sn)))) [0, 2, 3] ⟨by decide, rfl⟩
   ·
    have hc_5 := of_decide_eq_false hc_5
    refine T_exit rfl ?_
    obtain rfl : 8 = k := by omega
    refine T_as 0 _ (.blk g4 71 ((wds b 8).map b64)) rfl (by rw [wpad_all]) ?_
    refine T_seq ?_
    refine Tsr hF rfl ?_
    refine lo rfl (pr_ixa (j := 0) (m' := 0) sd (by omega) Try.underlying71 (z := 1) kr rfl rfl rfl) rfl rfl ?_
    refine lq rfl (ld_blk 0 rfl (get64 sd) Try.underlying30 rfl rfl rfl) rfl rfl ?_
    refine lo rfl (pr_cmp (bo := .lss) (cm_lt64 (ath (wds b 8) 0) (1#64)) rfl rfl rfl rfl) rfl rfl ?_
    refine lm rfl rfl rfl rfl rfl ?_
    rcases Bool.eq_false_or_eq_true (decide ((ath (wds b 8) 0) < 1#64)) with hc_9 | hc_9
    ·
     refine T_slot 31 (.bool (decide ((ath (wds b 8) 0) < 1#64))) (.bool true) rfl (congrArg _ hc_9) ?_
     refine T_slot 30 (.bool (decide ((ath (wds b 8) 0) < 1#64))) (.bool true) rfl (congrArg _ hc_9) ?_
     have hc_9 := of_decide_eq_true hc_9
     refine L_skip rfl rfl rfl ?_
     refine L_skip rfl rfl rfl ?_
     refine L_skip rfl rfl rfl ?_
     refine lo rfl (pr_pick_t rfl rfl rfl) rfl rfl ?_
     refine lm rfl rfl rfl rfl rfl ?_
     refine L_skip rfl rfl rfl ?_
     refine L_skip rfl rfl rfl ?_
     refine L_skip rfl rfl rfl ?_
     refine lo rfl (pr_pick_t rfl rfl rfl) rfl rfl ?_
     refine lm rfl rfl rfl rfl rfl ?_
     refine L_skip rfl rfl rfl ?_
     refine L_skip rfl rfl rfl ?_
     refine L_skip rfl rfl rfl ?_
     refine lo rfl (pr_pick_t rfl rfl rfl) rfl rfl ?_
     refine lm rfl rfl rfl rfl rfl ?_
     refine L_skip rfl rfl rfl ?_
     refine L_skip rfl rfl rfl ?_
     refine L_skip rfl rfl rfl ?_
     refine lo rfl (pr_pick_t rfl rfl rfl) rfl rfl ?_
     refine L_nil ?_
     refine T_cond_t rfl ?_
     refine Tsr hF rfl ?_
     refine lo rfl (pr_build (qs := []) (v := .agg [(.int .i64 ((0 : Nat) : Int)), (.int .i64 ((0 : Nat) : Int)), (.int .i64 ((0 : Nat) : Int)), (b64 (0#64)), (.int .i64 ((0 : Nat) : Int)), (b64 (0#64)), (b64 (0#64)), (b64 (0#64))].toArray) (fun _ => by kernel_rfl) rfl rfl) rfl rfl ?_
     refine L_op rfl (op_sto (n := 8) (vs := [(.int .i64 ((0 : Nat) : Int)), (.int .i64 ((0 : Nat) : Int)), (.int .i64 ((0 : Nat) : Int)), (b64 (0#64)), (.int .i64 ((0 : Nat) : Int)), (b64 (0#64)), (b64 (0#64)), (b64 (0#64))]) 1 rfl rfl kr (by simp [Value.oneCell']) kr kr rfl rfl rfl rfl ?_)
     refine la rfl rfl rfl rfl rfl ?_
     refine L_nil ?_
     refine T_ret ?_
     refine T_as 0 _ (.blk g1 33 (ltv b)) rfl (by first | rfl | (rw [ltv_short (by omega)]; rfl) | (rw [ltv_long (by omega)]; rfl) | rw [lte_short (by omega)] | rw [lte_long (by omega)] | (rw [ltv_ok (by omega) (by assumption) (by assumption) (by assumption) (by assumption) (by assumption)]; rfl) | rw [lte_ok (by omega) (by assumption) (by assumption) (by assumption) (by assumption) (by assumption)] | (rw [ltv_bad (lbad1 (by assumption))]; rfl) | rw [lte_bad (by omega) (lbad1 (by assumption))] | (rw [ltv_bad (lbad2 (by assumption))]; rfl) | rw [lte_bad (by omega) (lbad2 (by assumption))] | (rw [ltv_bad (lbad3 (by assumption))]; rfl) | rw [lte_bad (by omega) (lbad3 (by assumption))] | (rw [ltv_bad (lbad4 (by assumption))]; rfl) | rw [lte_bad (by omega) (lbad4 (by assumption))] | (rw [ltv_bad (lbad5 (by assumption))]; rfl) | rw [lte_bad (by omega) (lbad5 (by assumption))]) ?_
     refine T_slot 3 (.int .i64 ((4 : Nat) : Int)) (.int .i64 (((lte b) : Nat) : Int)) rfl (by first | rfl | (rw [ltv_short (by omega)]; rfl) | (rw [ltv_long (by omega)]; rfl) | rw [lte_short (by omega)] | rw [lte_long (by omega)] | (rw [ltv_ok (by omega) (by assumption) (by assumption) (by assumption) (by assumption) (by assumption)]; rfl) | rw [lte_ok (by omega) (by assumption) (by assumption) (by assumption) (by assumption) (by assumption)] | (rw [ltv_bad (lbad1 (by assumption))]; rfl) | rw [lte_bad (by omega) (lbad1 (by assumption))] | (rw [ltv_bad (lbad2 (by assumption))]; rfl) | rw [lte_bad (by omega) (lbad2 (by assumption))] | (rw [ltv_bad (lbad3 (by assumption))]; rfl) | rw [lte_bad (by omega) (lbad3 (by assumption))] | (rw [ltv_bad (lbad4 (by assumption))]; rfl) | rw [lte_bad (by omega) (lbad4 (by assumption))] | (rw [ltv_bad (lbad5 (by assumption))]; rfl) | rw [lte_bad (by omega) (lbad5 (by assumption))]) ?_
     exact T_fin () (by first | trivial | omega | (simp; done)) (resct 0 rfl rfl rfl Try.underlying33 rfl (fwz (n := 8) kr sd) rfl) [] ⟨by decide, rfl⟩ rfl
    ·
     refine T_slot 31 (.bool (decide ((ath (wds b 8) 0) < 1#64))) (.bool false) rfl (congrArg _ hc_9) ?_
     refine T_slot 30 (.bool (decide ((ath (wds b 8) 0) < 1#64))) (.bool false) rfl (congrArg _ hc_9) ?_
     have hc_9 := of_decide_eq_false hc_9
     refine lo rfl (pr_ixa (j := 0) (m' := 0) sd (by omega) Try.underlying71 (z := 1) kr rfl rfl rfl) rfl rfl ?_
     refine lq rfl (ld_blk 0 rfl (get64 sd) Try.underlying30 rfl rfl rfl) rfl rfl ?_
     refine lo rfl (pr_cmp (bo := .gtr) (cm_lt64 (5#64) (ath (wds b 8) 0)) rfl rfl rfl rfl) rfl rfl ?_
     refine lo rfl (pr_pick_f rfl rfl rfl) rfl rfl ?_
     refine lm rfl rfl rfl rfl rfl ?_
     rcases Bool.eq_false_or_eq_true (decide (5#64 < (ath (wds b 8) 0))) with hc_10 | hc_10
     ·
      refine T_slot 36 (.bool (decide (5#64 < (ath (wds b 8) 0)))) (.bool true) rfl (congrArg _ hc_10) ?_
      refine T_slot 34 (.bool (decide (5#64 < (ath (wds b 8) 0)))) (.bool true) rfl (congrArg _ hc_10) ?_
      refine T_slot 35 (.bool (decide (5#64 < (ath (wds b 8) 0)))) (.bool true) rfl (congrArg _ hc_10) ?_
      have hc_10 := of_decide_eq_true hc_10
      refine L_skip rfl rfl rfl ?_
      refine L_skip rfl rfl rfl ?_
      refine L_skip rfl rfl rfl ?_
      refine lo rfl (pr_pick_t rfl rfl rfl) rfl rfl ?_
      refine lm rfl rfl rfl rfl rfl ?_
      refine L_skip rfl rfl rfl ?_
      refine L_skip rfl rfl rfl ?_
      refine L_skip rfl rfl rfl ?_
      refine lo rfl (pr_pick_t rfl rfl rfl) rfl rfl ?_
      refine lm rfl rfl rfl rfl rfl ?_
      refine L_skip rfl rfl rfl ?_
      refine L_skip rfl rfl rfl ?_
      refine L_skip rfl rfl rfl ?_
      refine lo rfl (pr_pick_t rfl rfl rfl) rfl rfl ?_
      refine L_nil ?_
      refine T_cond_t rfl ?_
      refine Tsr hF rfl ?_
      refine lo rfl (pr_build (qs := []) (v := .agg [(.int .i64 ((0 : Nat) : Int)), (.int .i64 ((0 : Nat) : Int)), (.int .i64 ((0 : Nat) : Int)), (b64 (0#64)), (.int .i64 ((0 : Nat) : Int)), (b64 (0#64)), (b64 (0#64)), (b64 (0#64))].toArray) (fun _ => by kernel_rfl) rfl rfl) rfl rfl ?_
      refine L_op rfl (op_sto (n := 8) (vs := [(.int .i64 ((0 : Nat) : Int)), (.int .i64 ((0 : Nat) : Int)), (.int .i64 ((0 : Nat) : Int)), (b64 (0#64)), (.int .i64 ((0 : Nat) : Int)), (b64 (0#64)), (b64 (0#64)), (b64 (0#64))]) 1 rfl rfl kr (by simp [Value.oneCell']) kr kr rfl rfl rfl rfl ?_)
      refine la rfl rfl rfl rfl rfl ?_
      refine L_nil ?_
      refine T_ret ?_
      refine T_as 0 _ (.blk g1 33 (ltv b)) rfl (by first | rfl | (rw [ltv_short (by omega)]; rfl) | (rw [ltv_long (by omega)]; rfl) | rw [lte_short (by omega)] | rw [lte_long (by omega)] | (rw [ltv_ok (by omega) (by assumption) (by assumption) (by assumption) (by assumption) (by assumption)]; rfl) | rw [lte_ok (by omega) (by assumption) (by assumption) (by assumption) (by assumption) (by assumption)] | (rw [ltv_bad (lbad1 (by assumption))]; rfl) | rw [lte_bad (by omega) (lbad1 (by assumption))] | (rw [ltv_bad (lbad2 (by assumption))]; rfl) | rw [lte_bad (by omega) (lbad2 (by assumption))] | (rw [ltv_bad (lbad3 (by assumption))]; rfl) | rw [lte_bad (by omega) (lbad3 (by assumption))] | (rw [ltv_bad (lbad4 (by assumption))]; rfl) | rw [lte_bad (by omega) (lbad4 (by assumption))] | (rw [ltv_bad (lbad5 (by assumption))]; rfl) | rw [lte_bad (by omega) (lbad5 (by assumption))]) ?_
      refine T_slot 3 (.int .i64 ((4 : Nat) : Int)) (.int .i64 (((lte b) : Nat) : Int)) rfl (by first | rfl | (rw [ltv_short (by omega)]; rfl) | (rw [ltv_long (by omega)]; rfl) | rw [lte_short (by omega)] | rw [lte_long (by omega)] | (rw [ltv_ok (by omega) (by assumption) (by assumption) (by assumption) (by assumption) (by assumption)]; rfl) | rw [lte_ok (by omega) (by assumption) (by assumption) (by assumption) (by assumption) (by assumption)] | (rw [ltv_bad (lbad1 (by assumption))]; rfl) | rw [lte_bad (by omega) (lbad1 (by assumption))] | (rw [ltv_bad (lbad2 (by assumption))]; rfl) | rw [lte_bad (by omega) (lbad2 (by assumption))] | (rw [ltv_bad (lbad3 (by assumption))]; rfl) | rw [lte_bad (by omega) (lbad3 (by assumption))] | (rw [ltv_bad (lbad4 (by assumption))]; rfl) | rw [lte_bad (by omega) (lbad4 (by assumption))] | (rw [ltv_bad (lbad5 (by assumption))]; rfl) | rw [lte_bad (by omega) (lbad5 (by assumption))]) ?_
      exact T_fin () (by first | trivial | omega | (simp; done)) (resct 0 rfl rfl rfl Try.underlying33 rfl (fwz (n := 8) kr sd) rfl) [] ⟨by decide, rfl⟩ rfl
     ·
      refine T_slot 36 (.bool (decide (5#64 < (ath (wds b 8) 0)))) (.bool false) rfl (congrArg _ hc_10) ?_
      refine T_slot 34 (.bool (decide (5#64 < (ath (wds b 8) 0)))) (.bool false) rfl (congrArg _ hc_10) ?_
      refine T_slot 35 (.bool (decide (5#64 < (ath (wds b 8) 0)))) (.bool false) rfl (congrArg _ hc_10) ?_
      have hc_10 := of_decide_eq_false hc_10
      refine lo rfl (pr_ixa (j := 1) (m' := 1) sd (by omega) Try.underlying71 (z := 1) kr rfl rfl rfl) rfl rfl ?_
      refine lq rfl (ld_blk 0 rfl (get64 sd) Try.underlying30 rfl rfl rfl) rfl rfl ?_
      refine lo rfl (pr_cmp (bo := .gtr) (cm_lt64 (4#64) (ath (wds b 8) 1)) rfl rfl rfl rfl) rfl rfl ?_
      refine lo rfl (pr_pick_f rfl rfl rfl) rfl rfl ?_
      refine lm rfl rfl rfl rfl rfl ?_
      rcases Bool.eq_false_or_eq_true (decide (4#64 < (ath (wds b 8) 1))) with hc_11 | hc_11
      ·
       refine T_slot 41 (.bool (decide (4#64 < (ath (wds b 8) 1)))) (.bool true) rfl (congrArg _ hc_11) ?_
       refine T_slot 39 (.bool (decide (4#64 < (ath (wds b 8) 1)))) (.bool true) rfl (congrArg _ hc_11) ?_
       refine T_slot 40 (.bool (decide (4#64 < (ath (wds b 8) 1)))) (.bool true) rfl (congrArg _ hc_11) ?_
       have hc_11 := of_decide_eq_true hc_11
       refine L_skip rfl rfl rfl ?_
       refine L_skip rfl rfl rfl ?_
       refine L_skip rfl rfl rfl ?_
       refine lo rfl (pr_pick_t rfl rfl rfl) rfl rfl ?_
       refine lm rfl rfl rfl rfl rfl ?_
       refine L_skip rfl rfl rfl ?_
       refine L_skip rfl rfl rfl ?_
       refine L_skip rfl rfl rfl ?_
       refine lo rfl (pr_pick_t rfl rfl rfl) rfl rfl ?_
       refine L_nil ?_
       refine T_cond_t rfl ?_
       refine Tsr hF rfl ?_
       refine lo rfl (pr_build (qs := []) (v := .agg [(.int .i64 ((0 : Nat) : Int)), (.int .i64 ((0 : Nat) : Int)), (.int .i64 ((0 : Nat) : Int)), (b64 (0#64)), (.int .i64 ((0 : Nat) : Int)), (b64 (0#64)), (b64 (0#64)), (b64 (0#64))].toArray) (fun _ => by kernel_rfl) rfl rfl) rfl rfl ?_
       refine L_op rfl (op_sto (n := 8) (vs := [(.int .i64 ((0 : Nat) : Int)), (.int .i64 ((0 : Nat) : Int)), (.int .i64 ((0 : Nat) : Int)), (b64 (0#64)), (.int .i64 ((0 : Nat) : Int)), (b64 (0#64)), (b64 (0#64)), (b64 (0#64))]) 1 rfl rfl kr (by simp [Value.oneCell']) kr kr rfl rfl rfl rfl ?_)
       refine la rfl rfl rfl rfl rfl ?_
       refine L_nil ?_
       refine T_ret ?_
       refine T_as 0 _ (.blk g1 33 (ltv b)) rfl (by first | rfl | (rw [ltv_short (by omega)]; rfl) | (rw [ltv_long (by omega)]; rfl) | rw [lte_short (by omega)] | rw [lte_long (by omega)] | (rw [ltv_ok (by omega) (by assumption) (by assumption) (by assumption) (by assumption) (by assumption)]; rfl) | rw [lte_ok (by omega) (by assumption) (by assumption) (by assumption) (by assumption) (by assumption)] | (rw [ltv_bad (lbad1 (by assumption))]; rfl) | rw [lte_bad (by omega) (lbad1 (by assumption))] | (rw [ltv_bad (lbad2 (by assumption))]; rfl) | rw [lte_bad (by omega) (lbad2 (by assumption))] | (rw [ltv_bad (lbad3 (by assumption))]; rfl) | rw [lte_bad (by omega) (lbad3 (by assumption))] | (rw [ltv_bad (lbad4 (by assumption))]; rfl) | rw [lte_bad (by omega) (lbad4 (by assumption))] | (rw [ltv_bad (lbad5 (by assumption))]; rfl) | rw [lte_bad (by omega) (lbad5 (by assumption))]) ?_
       refine T_slot 3 (.int .i64 ((4 : Nat) : Int)) (.int .i64 (((lte b) : Nat) : Int)) rfl (by first | rfl | (rw [ltv_short (by omega)]; rfl) | (rw [ltv_long (by omega)]; rfl) | rw [lte_short (by omega)] | rw [lte_long (by omega)] | (rw [ltv_ok (by omega) (by assumption) (by assumption) (by assumption) (by assumption) (by assumption)]; rfl) | rw [lte_ok (by omega) (by assumption) (by assumption) (by assumption) (by assumption) (by assumption)] | (rw [ltv_bad (lbad1 (by assumption))]; rfl) | rw [lte_bad (by omega) (lbad1 (by assumption))] | (rw [ltv_bad (lbad2 (by assumption))]; rfl) | rw [lte_bad (by omega) (lbad2 (by assumption))] | (rw [ltv_bad (lbad3 (by assumption))]; rfl) | rw [lte_bad (by omega) (lbad3 (by assumption))] | (rw [ltv_bad (lbad4 (by assumption))]; rfl) | rw [lte_bad (by omega) (lbad4 (by assumption))] | (rw [ltv_bad (lbad5 (by assumption))]; rfl) | rw [lte_bad (by omega) (lbad5 (by assumption))]) ?_
       exact T_fin () (by first | trivial | omega | (simp; done)) (resct 0 rfl rfl rfl Try.underlying33 rfl (fwz (n := 8) kr sd) rfl) [] ⟨by decide, rfl⟩ rfl
      ·
       refine T_slot 41 (.bool (decide (4#64 < (ath (wds b 8) 1)))) (.bool false) rfl (congrArg _ hc_11) ?_
       refine T_slot 39 (.bool (decide (4#64 < (ath (wds b 8) 1)))) (.bool false) rfl (congrArg _ hc_11) ?_
       refine T_slot 40 (.bool (decide (4#64 < (ath (wds b 8) 1)))) (.bool false) rfl (congrArg _ hc_11) ?_
       have hc_11 := of_decide_eq_false hc_11
       refine lo rfl (pr_ixa (j := 2) (m' := 2) sd (by omega) Try.underlying71 (z := 1) kr rfl rfl rfl) rfl rfl ?_
       refine lq rfl (ld_blk 0 rfl (get64 sd) Try.underlying30 rfl rfl rfl) rfl rfl ?_
       refine lo rfl (pr_cmp (bo := .gtr) (cm_lt64 (4#64) (ath (wds b 8) 2)) rfl rfl rfl rfl) rfl rfl ?_
       refine lo rfl (pr_pick_f rfl rfl rfl) rfl rfl ?_
       refine lm rfl rfl rfl rfl rfl ?_
       rcases Bool.eq_false_or_eq_true (decide (4#64 < (ath (wds b 8) 2))) with hc_12 | hc_12
       ·
        refine T_slot 46 (.bool (decide (4#64 < (ath (wds b 8) 2)))) (.bool true) rfl (congrArg _ hc_12) ?_
        refine T_slot 44 (.bool (decide (4#64 < (ath (wds b 8) 2)))) (.bool true) rfl (congrArg _ hc_12) ?_
        refine T_slot 45 (.bool (decide (4#64 < (ath (wds b 8) 2)))) (.bool true) rfl (congrArg _ hc_12) ?_
        have hc_12 := of_decide_eq_true hc_12
        refine L_skip rfl rfl rfl ?_
        refine L_skip rfl rfl rfl ?_
        refine L_skip rfl rfl rfl ?_
        refine lo rfl (pr_pick_t rfl rfl rfl) rfl rfl ?_
        refine L_nil ?_
        refine T_cond_t rfl ?_
        refine Tsr hF rfl ?_
        refine lo rfl (pr_build (qs := []) (v := .agg [(.int .i64 ((0 : Nat) : Int)), (.int .i64 ((0 : Nat) : Int)), (.int .i64 ((0 : Nat) : Int)), (b64 (0#64)), (.int .i64 ((0 : Nat) : Int)), (b64 (0#64)), (b64 (0#64)), (b64 (0#64))].toArray) (fun _ => by kernel_rfl) rfl rfl) rfl rfl ?_
        refine L_op rfl (op_sto (n := 8) (vs := [(.int .i64 ((0 : Nat) : Int)), (.int .i64 ((0 : Nat) : Int)), (.int .i64 ((0 : Nat) : Int)), (b64 (0#64)), (.int .i64 ((0 : Nat) : Int)), (b64 (0#64)), (b64 (0#64)), (b64 (0#64))]) 1 rfl rfl kr (by simp [Value.oneCell']) kr kr rfl rfl rfl rfl ?_)
        refine la rfl rfl rfl rfl rfl ?_
        refine L_nil ?_
        refine T_ret ?_
        refine T_as 0 _ (.blk g1 33 (ltv b)) rfl (by first | rfl | (rw [ltv_short (by omega)]; rfl) | (rw [ltv_long (by omega)]; rfl) | rw [lte_short (by omega)] | rw [lte_long (by omega)] | (rw [ltv_ok (by omega) (by assumption) (by assumption) (by assumption) (by assumption) (by assumption)]; rfl) | rw [lte_ok (by omega) (by assumption) (by assumption) (by assumption) (by assumption) (by assumption)] | (rw [ltv_bad (lbad1 (by assumption))]; rfl) | rw [lte_bad (by omega) (lbad1 (by assumption))] | (rw [ltv_bad (lbad2 (by assumption))]; rfl) | rw [lte_bad (by omega) (lbad2 (by assumption))] | (rw [ltv_bad (lbad3 (by assumption))]; rfl) | rw [lte_bad (by omega) (lbad3 (by assumption))] | (rw [ltv_bad (lbad4 (by assumption))]; rfl) | rw [lte_bad (by omega) (lbad4 (by assumption))] | (rw [ltv_bad (lbad5 (by assumption))]; rfl) | rw [lte_bad (by omega) (lbad5 (by assumption))]) ?_
        refine T_slot 3 (.int .i64 ((4 : Nat) : Int)) (.int .i64 (((lte b) : Nat) : Int)) rfl (by first | rfl | (rw [ltv_short (by omega)]; rfl) | (rw [ltv_long (by omega)]; rfl) | rw [lte_short (by omega)] | rw [lte_long (by omega)] | (rw [ltv_ok (by omega) (by assumption) (by assumption) (by assumption) (by assumption) (by assumption)]; rfl) | rw [lte_ok (by omega) (by assumption) (by assumption) (by assumption) (by assumption) (by assumption)] | (rw [ltv_bad (lbad1 (by assumption))]; rfl) | rw [lte_bad (by omega) (lbad1 (by assumption))] | (rw [ltv_bad (lbad2 (by assumption))]; rfl) | rw [lte_bad (by omega) (lbad2 (by assumption))] | (rw [ltv_bad (lbad3 (by assumption))]; rfl) | rw [lte_bad (by omega) (lbad3 (by assumption))] | (rw [ltv_bad (lbad4 (by assumption))]; rfl) | rw [lte_bad (by omega) (lbad4 (by assumption))] | (rw [ltv_bad (lbad5 (by assumption))]; rfl) | rw [lte_bad (by omega) (lbad5 (by assumption))]) ?_
        exact T_fin () (by first | trivial | omega | (simp; done)) (resct 0 rfl rfl rfl Try.underlying33 rfl (fwz (n := 8) kr sd) rfl) [] ⟨by decide, rfl⟩ rfl
       ·
        refine T_slot 46 (.bool (decide (4#64 < (ath (wds b 8) 2)))) (.bool false) rfl (congrArg _ hc_12) ?_
        refine T_slot 44 (.bool (decide (4#64 < (ath (wds b 8) 2)))) (.bool false) rfl (congrArg _ hc_12) ?_
        refine T_slot 45 (.bool (decide (4#64 < (ath (wds b 8) 2)))) (.bool false) rfl (congrArg _ hc_12) ?_
        have hc_12 := of_decide_eq_false hc_12
        refine lo rfl (pr_ixa (j := 4) (m' := 4) sd (by omega) Try.underlying71 (z := 1) kr rfl rfl rfl) rfl rfl ?_
        refine lq rfl (ld_blk 0 rfl (get64 sd) Try.underlying30 rfl rfl rfl) rfl rfl ?_
        refine lo rfl (pr_cmp (bo := .gtr) (cm_lt64 (4000#64) (ath (wds b 8) 4)) rfl rfl rfl rfl) rfl rfl ?_
        refine lo rfl (pr_pick_f rfl rfl rfl) rfl rfl ?_
        refine L_nil ?_
        refine T_cond (decide (4000#64 < (ath (wds b 8) 4))) rfl (fun hc_13 => ?_) (fun hc_13 => ?_)
        ·
         have hc_13 := of_decide_eq_true hc_13
         refine Tsr hF rfl ?_
         refine lo rfl (pr_build (qs := []) (v := .agg [(.int .i64 ((0 : Nat) : Int)), (.int .i64 ((0 : Nat) : Int)), (.int .i64 ((0 : Nat) : Int)), (b64 (0#64)), (.int .i64 ((0 : Nat) : Int)), (b64 (0#64)), (b64 (0#64)), (b64 (0#64))].toArray) (fun _ => by kernel_rfl) rfl rfl) rfl rfl ?_
         refine L_op rfl (op_sto (n := 8) (vs := [(.int .i64 ((0 : Nat) : Int)), (.int .i64 ((0 : Nat) : Int)), (.int .i64 ((0 : Nat) : Int)), (b64 (0#64)), (.int .i64 ((0 : Nat) : Int)), (b64 (0#64)), (b64 (0#64)), (b64 (0#64))]) 1 rfl rfl kr (by simp [Value.oneCell']) kr kr rfl rfl rfl rfl ?_)
         refine la rfl rfl rfl rfl rfl ?_
         refine L_nil ?_
         refine T_ret ?_
         refine T_as 0 _ (.blk g1 33 (ltv b)) rfl (by first | rfl | (rw [ltv_short (by omega)]; rfl) | (rw [ltv_long (by omega)]; rfl) | rw [lte_short (by omega)] | rw [lte_long (by omega)] | (rw [ltv_ok (by omega) (by assumption) (by assumption) (by assumption) (by assumption) (by assumption)]; rfl) | rw [lte_ok (by omega) (by assumption) (by assumption) (by assumption) (by assumption) (by assumption)] | (rw [ltv_bad (lbad1 (by assumption))]; rfl) | rw [lte_bad (by omega) (lbad1 (by assumption))] | (rw [ltv_bad (lbad2 (by assumption))]; rfl) | rw [lte_bad (by omega) (lbad2 (by assumption))] | (rw [ltv_bad (lbad3 (by assumption))]; rfl) | rw [lte_bad (by omega) (lbad3 (by assumption))] | (rw [ltv_bad (lbad4 (by assumption))]; rfl) | rw [lte_bad (by omega) (lbad4 (by assumption))] | (rw [ltv_bad (lbad5 (by assumption))]; rfl) | rw [lte_bad (by omega) (lbad5 (by assumption))]) ?_
         refine T_slot 3 (.int .i64 ((4 : Nat) : Int)) (.int .i64 (((lte b) : Nat) : Int)) rfl (by first | rfl | (rw [ltv_short (by omega)]; rfl) | (rw [ltv_long (by omega)]; rfl) | rw [lte_short (by omega)] | rw [lte_long (by omega)] | (rw [ltv_ok (by omega) (by assumption) (by assumption) (by assumption) (by assumption) (by assumption)]; rfl) | rw [lte_ok (by omega) (by assumption) (by assumption) (by assumption) (by assumption) (by assumption)] | (rw [ltv_bad (lbad1 (by assumption))]; rfl) | rw [lte_bad (by omega) (lbad1 (by assumption))] | (rw [ltv_bad (lbad2 (by assumption))]; rfl) | rw [lte_bad (by omega) (lbad2 (by assumption))] | (rw [ltv_bad (lbad3 (by assumption))]; rfl) | rw [lte_bad (by omega) (lbad3 (by assumption))] | (rw [ltv_bad (lbad4 (by assumption))]; rfl) | rw [lte_bad (by omega) (lbad4 (by assumption))] | (rw [ltv_bad (lbad5 (by assumption))]; rfl) | rw [lte_bad (by omega) (lbad5 (by assumption))]) ?_
         exact T_fin () (by first | trivial | omega | (simp; done)) (resct 0 rfl rfl rfl Try.underlying33 rfl (fwz (n := 8) kr sd) rfl) [] ⟨by decide, rfl⟩ rfl
        ·
         have hc_13 := of_decide_eq_false hc_13
         refine T_skip ?_
         refine Tsr hF rfl ?_
         refine lo rfl (pr_ixa (j := 0) (m' := 0) sd (by omega) Try.underlying71 (z := 1) kr rfl rfl rfl) rfl rfl ?_
         have hb0 : (ath (wds b 8) 0).toNat ≤ 5 := nle64 (show ¬ 5#64 < ath (wds b 8) 0 by assumption)
         have hb1 : (ath (wds b 8) 1).toNat ≤ 4 := nle64 (show ¬ 4#64 < ath (wds b 8) 1 by assumption)
         have hb2 : (ath (wds b 8) 2).toNat ≤ 4 := nle64 (show ¬ 4#64 < ath (wds b 8) 2 by assumption)
         have hb3 : (ath (wds b 8) 4).toNat ≤ 4000 := nle64 (show ¬ 4000#64 < ath (wds b 8) 4 by assumption)
         refine lq rfl (ld_blk 0 rfl (get64 sd) Try.underlying30 rfl rfl rfl) rfl rfl ?_
         refine lo rfl (pr_cv (n64i sd) Try.underlying30 Try.underlying3 rfl rfl) rfl rfl ?_
         refine lo rfl (pr_ixa (j := 1) (m' := 1) sd (by omega) Try.underlying71 (z := 1) kr rfl rfl rfl) rfl rfl ?_
         refine lq rfl (ld_blk 0 rfl (get64 sd) Try.underlying30 rfl rfl rfl) rfl rfl ?_
         refine lo rfl (pr_cv (n64i sd) Try.underlying30 Try.underlying3 rfl rfl) rfl rfl ?_
         refine lo rfl (pr_ixa (j := 2) (m' := 2) sd (by omega) Try.underlying71 (z := 1) kr rfl rfl rfl) rfl rfl ?_
         refine lq rfl (ld_blk 0 rfl (get64 sd) Try.underlying30 rfl rfl rfl) rfl rfl ?_
         refine lo rfl (pr_cv (n64i sd) Try.underlying30 Try.underlying3 rfl rfl) rfl rfl ?_
         refine lo rfl (pr_ixa (j := 3) (m' := 3) sd (by omega) Try.underlying71 (z := 1) kr rfl rfl rfl) rfl rfl ?_
         refine lq rfl (ld_blk 0 rfl (get64 sd) Try.underlying30 rfl rfl rfl) rfl rfl ?_
         refine lo rfl (pr_ixa (j := 4) (m' := 4) sd (by omega) Try.underlying71 (z := 1) kr rfl rfl rfl) rfl rfl ?_
         refine lq rfl (ld_blk 0 rfl (get64 sd) Try.underlying30 rfl rfl rfl) rfl rfl ?_
         refine lo rfl (pr_cv (n64i sd) Try.underlying30 Try.underlying3 rfl rfl) rfl rfl ?_
         refine lo rfl (pr_ixa (j := 5) (m' := 5) sd (by omega) Try.underlying71 (z := 1) kr rfl rfl rfl) rfl rfl ?_
         refine lq rfl (ld_blk 0 rfl (get64 sd) Try.underlying30 rfl rfl rfl) rfl rfl ?_
         refine lo rfl (pr_ixa (j := 6) (m' := 6) sd (by omega) Try.underlying71 (z := 1) kr rfl rfl rfl) rfl rfl ?_
         refine lq rfl (ld_blk 0 rfl (get64 sd) Try.underlying30 rfl rfl rfl) rfl rfl ?_
         refine lo rfl (pr_ixa (j := 7) (m' := 7) sd (by omega) Try.underlying71 (z := 1) kr rfl rfl rfl) rfl rfl ?_
         refine lq rfl (ld_blk 0 rfl (get64 sd) Try.underlying30 rfl rfl rfl) rfl rfl ?_
         refine lo rfl (pr_build (qs := [(0, (b64 (ath (wds b 8) 6))), (1, (b64 (ath (wds b 8) 7)))]) (v := .agg [(b64 (ath (wds b 8) 6)), (b64 (ath (wds b 8) 7))].toArray) (fun _ => by kernel_rfl) rfl rfl) rfl rfl ?_
         refine lo rfl (pr_build (qs := [(0, (.int .i64 (((ath (wds b 8) 0).toNat : Nat) : Int))), (1, (.int .i64 (((ath (wds b 8) 1).toNat : Nat) : Int))), (2, (.int .i64 (((ath (wds b 8) 2).toNat : Nat) : Int))), (3, (b64 (ath (wds b 8) 3))), (4, (.int .i64 (((ath (wds b 8) 4).toNat : Nat) : Int))), (5, (b64 (ath (wds b 8) 5))), (6, (.agg [(b64 (ath (wds b 8) 6)), (b64 (ath (wds b 8) 7))].toArray))]) (v := .agg [(.int .i64 (((ath (wds b 8) 0).toNat : Nat) : Int)), (.int .i64 (((ath (wds b 8) 1).toNat : Nat) : Int)), (.int .i64 (((ath (wds b 8) 2).toNat : Nat) : Int)), (b64 (ath (wds b 8) 3)), (.int .i64 (((ath (wds b 8) 4).toNat : Nat) : Int)), (b64 (ath (wds b 8) 5)), (b64 (ath (wds b 8) 6)), (b64 (ath (wds b 8) 7))].toArray) (fun _ => by kernel_rfl) rfl rfl) rfl rfl ?_
         refine L_op rfl (op_sto (n := 8) (vs := [(.int .i64 (((ath (wds b 8) 0).toNat : Nat) : Int)), (.int .i64 (((ath (wds b 8) 1).toNat : Nat) : Int)), (.int .i64 (((ath (wds b 8) 2).toNat : Nat) : Int)), (b64 (ath (wds b 8) 3)), (.int .i64 (((ath (wds b 8) 4).toNat : Nat) : Int)), (b64 (ath (wds b 8) 5)), (b64 (ath (wds b 8) 6)), (b64 (ath (wds b 8) 7))]) 1 rfl rfl kr (by simp [Value.oneCell']) kr kr rfl rfl rfl rfl ?_)
         refine la rfl rfl rfl rfl rfl ?_
         refine L_nil ?_
         refine T_ret ?_
         refine T_as 0 _ (.blk g1 33 (ltv b)) rfl (by first | rfl | (rw [ltv_short (by omega)]; rfl) | (rw [ltv_long (by omega)]; rfl) | rw [lte_short (by omega)] | rw [lte_long (by omega)] | (rw [ltv_ok (by omega) (by assumption) (by assumption) (by assumption) (by assumption) (by assumption)]; rfl) | rw [lte_ok (by omega) (by assumption) (by assumption) (by assumption) (by assumption) (by assumption)] | (rw [ltv_bad (lbad1 (by assumption))]; rfl) | rw [lte_bad (by omega) (lbad1 (by assumption))] | (rw [ltv_bad (lbad2 (by assumption))]; rfl) | rw [lte_bad (by omega) (lbad2 (by assumption))] | (rw [ltv_bad (lbad3 (by assumption))]; rfl) | rw [lte_bad (by omega) (lbad3 (by assumption))] | (rw [ltv_bad (lbad4 (by assumption))]; rfl) | rw [lte_bad (by omega) (lbad4 (by assumption))] | (rw [ltv_bad (lbad5 (by assumption))]; rfl) | rw [lte_bad (by omega) (lbad5 (by assumption))]) ?_
         refine T_slot 3 (.int .i64 ((0 : Nat) : Int)) (.int .i64 (((lte b) : Nat) : Int)) rfl (by first | rfl | (rw [ltv_short (by omega)]; rfl) | (rw [ltv_long (by omega)]; rfl) | rw [lte_short (by omega)] | rw [lte_long (by omega)] | (rw [ltv_ok (by omega) (by assumption) (by assumption) (by assumption) (by assumption) (by assumption)]; rfl) | rw [lte_ok (by omega) (by assumption) (by assumption) (by assumption) (by assumption) (by assumption)] | (rw [ltv_bad (lbad1 (by assumption))]; rfl) | rw [lte_bad (by omega) (lbad1 (by assumption))] | (rw [ltv_bad (lbad2 (by assumption))]; rfl) | rw [lte_bad (by omega) (lbad2 (by assumption))] | (rw [ltv_bad (lbad3 (by assumption))]; rfl) | rw [lte_bad (by omega) (lbad3 (by assumption))] | (rw [ltv_bad (lbad4 (by assumption))]; rfl) | rw [lte_bad (by omega) (lbad4 (by assumption))] | (rw [ltv_bad (lbad5 (by assumption))]; rfl) | rw [lte_bad (by omega) (lbad5 (by assumption))]) ?_
         exact T_fin () (by first | trivial | omega | (simp; done)) (resct 0 rfl rfl rfl Try.underlying33 rfl (fwz (n := 8) kr sd) rfl) [] ⟨by decide, rfl⟩ rfl
end Go.Proofs.Ytlplpmkdebemnaa
namespace Go.Proofs.Ytlplpmkdebemnaa
set_option linter.unusedVariables false
set_option linter.unusedSimpArgs false
set_option linter.unnecessarySimpa false
set_option maxRecDepth 100000
open Go.RowKit Bv Fw

theorem ltv_eq (b : List (BitVec 8)) : ∀ d w, (Op.equalIn (d + 3) 33 (.agg (ltv b).toArray) (.agg (ltv b).toArray)).run Try.prog w = .ok true w := by
  intro d w
  unfold ltv
  split
  · exact eqs Try.underlying33 (by kernel_rfl) (eqt rfl (part1 Try.underlying3 rfl rfl) (part1 Try.underlying3 rfl rfl) (eqv_si Try.underlying3) (eqt rfl (part1 Try.underlying3 rfl rfl) (part1 Try.underlying3 rfl rfl) (eqv_si Try.underlying3) (eqt rfl (part1 Try.underlying3 rfl rfl) (part1 Try.underlying3 rfl rfl) (eqv_si Try.underlying3) (eqt rfl (part1 Try.underlying30 rfl rfl) (part1 Try.underlying30 rfl rfl) (eqv_si Try.underlying30) (eqt rfl (part1 Try.underlying3 rfl rfl) (part1 Try.underlying3 rfl rfl) (eqv_si Try.underlying3) (eqt rfl (part1 Try.underlying30 rfl rfl) (part1 Try.underlying30 rfl rfl) (eqv_si Try.underlying30) (eqt rfl (partA (n := 2) (zs := [(b64 (ath (wds b 8) 6)), (b64 (ath (wds b 8) 7))]) Try.underlying31 rfl (by kernel_rfl) rfl) (partA (n := 2) (zs := [(b64 (ath (wds b 8) 6)), (b64 (ath (wds b 8) 7))]) Try.underlying31 rfl (by kernel_rfl) rfl) (eqv_sa2 Try.underlying31 Try.underlying30 (by kernel_rfl)) eqf_nil)))))))
  · exact eqs Try.underlying33 (by kernel_rfl) (eqt rfl (part1 Try.underlying3 rfl rfl) (part1 Try.underlying3 rfl rfl) (eqv_si Try.underlying3) (eqt rfl (part1 Try.underlying3 rfl rfl) (part1 Try.underlying3 rfl rfl) (eqv_si Try.underlying3) (eqt rfl (part1 Try.underlying3 rfl rfl) (part1 Try.underlying3 rfl rfl) (eqv_si Try.underlying3) (eqt rfl (part1 Try.underlying30 rfl rfl) (part1 Try.underlying30 rfl rfl) (eqv_si Try.underlying30) (eqt rfl (part1 Try.underlying3 rfl rfl) (part1 Try.underlying3 rfl rfl) (eqv_si Try.underlying3) (eqt rfl (part1 Try.underlying30 rfl rfl) (part1 Try.underlying30 rfl rfl) (eqv_si Try.underlying30) (eqt rfl (partA (n := 2) (zs := [(b64 (0#64)), (b64 (0#64))]) Try.underlying31 rfl (by kernel_rfl) rfl) (partA (n := 2) (zs := [(b64 (0#64)), (b64 (0#64))]) Try.underlying31 rfl (by kernel_rfl) rfl) (eqv_sa2 Try.underlying31 Try.underlying30 (by kernel_rfl)) eqf_nil)))))))
theorem ltv_one (b : List (BitVec 8)) : ∀ u ∈ ltv b, u.oneCell' = true := by
  unfold ltv
  split <;> simp [lof, lnil, Value.oneCell']
set_option maxHeartbeats 4000000 in
theorem lsize_f  (w : World) (hO : HOK [] w)  : Calls Try.prog 28 [].toArray w (Ret (T := Unit) [] w (fun _ => True) (fun _ => (.int .i64 ((104 : Nat) : Int))) (fun _ => [])) := by
 have hF : Wid Fence.wide := wid_wide
 refine enter (c := _) Try.func28 rfl [] _ [] (by rw [Try.ntmps28]; rfl) (own_rds hO rfl) ?_
 rw [Try.ntmps28]
 refine T_re [] sn ?_
 refine T_he [] [] ⟨by decide, rfl⟩ ?_
 refine Tsr hF rfl ?_
 refine la rfl rfl rfl rfl rfl ?_
 refine L_nil ?_
 refine Tsr hF rfl ?_
 refine la rfl rfl rfl rfl rfl ?_
 refine L_nil ?_
 refine T_ret ?_
 exact T_fin () (by first | trivial | omega | (simp; done)) (res1 rfl rfl) [] ⟨by decide, rfl⟩ rfl
set_option maxHeartbeats 4000000 in
theorem awake21_f  (w : World) (hO : HOK [] w)  : Calls Try.prog 11 [].toArray w (Ret (T := Unit) [] w (fun _ => True) (fun _ => (.bool true)) (fun _ => [])) := by
 have hF : Wid Fence.wide := wid_wide
 refine enter (c := _) Try.func11 rfl [] _ [] (by rw [Try.ntmps11]; rfl) (own_rds hO rfl) ?_
 rw [Try.ntmps11]
 refine T_re [] sn ?_
 refine T_he [] [] ⟨by decide, rfl⟩ ?_
 refine Tsr hF rfl ?_
 refine la rfl rfl rfl rfl rfl ?_
 refine L_nil ?_
 refine Tsr hF rfl ?_
 refine L_op rfl (op_cn (fun w hw => lsize_f  w (hok_nil w) ) (enters_of Try.func28 kr rfl) rfl rfl rfl rfl rfl (fun t1 q2 => ?_))
 refine lo rfl (pr_cmp (bo := .eql) (nc_eq (a := 104) (b := 104)) rfl rfl rfl rfl) rfl rfl ?_
 refine lm rfl rfl rfl rfl rfl ?_
 refine lo rfl (pr_build (qs := []) (v := .agg [(.int .i64 ((0 : Nat) : Int)), (.int .i64 ((0 : Nat) : Int)), (.int .i64 ((0 : Nat) : Int)), (b64 (0#64)), (.int .i64 ((0 : Nat) : Int)), (b64 (0#64)), (b64 (0#64)), (b64 (0#64))].toArray) (fun _ => by kernel_rfl) rfl rfl) rfl rfl ?_
 refine L_op rfl (op_cn (fun w hw => lpack_f ((0 : Nat) : Int) ((0 : Nat) : Int) ((0 : Nat) : Int) (0#64) ((0 : Nat) : Int) (0#64) (0#64) (0#64) w (hok_nil w) ) (enters_of Try.func16 kr rfl) rfl rfl rfl rfl rfl (fun t3 q4 => ?_))
 obtain ⟨B5, d6⟩ := t3
 refine lo rfl (pr_len_sl Try.underlying23 rfl rfl) rfl rfl ?_
 refine lo rfl (pr_cmp (bo := .eql) (nc_eq (a := 64) (b := 64)) rfl rfl rfl rfl) rfl rfl ?_
 refine lo rfl (pr_pick_t rfl rfl rfl) rfl rfl ?_
 refine la rfl rfl rfl rfl rfl ?_
 refine L_nil ?_
 refine T_ret ?_
 refine T_slot 0 (.bool (64 == 64)) (.bool true) rfl (by first | rfl | (simp; done)) ?_
 exact T_fin () (by first | trivial | omega | (simp; done)) (res1 rfl rfl) [] ⟨by decide, rfl⟩ rfl
end Go.Proofs.Ytlplpmkdebemnaa
namespace Go.Proofs.Ytlplpmkdebemnaa
set_option linter.unusedVariables false
set_option linter.unusedSimpArgs false
open Bv
/-- The constants. -/
def shaK : List (BitVec 32) := [
  0x428a2f98#32, 0x71374491#32, 0xb5c0fbcf#32, 0xe9b5dba5#32, 0x3956c25b#32, 0x59f111f1#32, 0x923f82a4#32, 0xab1c5ed5#32,
  0xd807aa98#32, 0x12835b01#32, 0x243185be#32, 0x550c7dc3#32, 0x72be5d74#32, 0x80deb1fe#32, 0x9bdc06a7#32, 0xc19bf174#32,
  0xe49b69c1#32, 0xefbe4786#32, 0x0fc19dc6#32, 0x240ca1cc#32, 0x2de92c6f#32, 0x4a7484aa#32, 0x5cb0a9dc#32, 0x76f988da#32,
  0x983e5152#32, 0xa831c66d#32, 0xb00327c8#32, 0xbf597fc7#32, 0xc6e00bf3#32, 0xd5a79147#32, 0x06ca6351#32, 0x14292967#32,
  0x27b70a85#32, 0x2e1b2138#32, 0x4d2c6dfc#32, 0x53380d13#32, 0x650a7354#32, 0x766a0abb#32, 0x81c2c92e#32, 0x92722c85#32,
  0xa2bfe8a1#32, 0xa81a664b#32, 0xc24b8b70#32, 0xc76c51a3#32, 0xd192e819#32, 0xd6990624#32, 0xf40e3585#32, 0x106aa070#32,
  0x19a4c116#32, 0x1e376c08#32, 0x2748774c#32, 0x34b0bcb5#32, 0x391c0cb3#32, 0x4ed8aa4a#32, 0x5b9cca4f#32, 0x682e6ff3#32,
  0x748f82ee#32, 0x78a5636f#32, 0x84c87814#32, 0x8cc70208#32, 0x90befffa#32, 0xa4506ceb#32, 0xbef9a3f7#32, 0xc67178f2#32]
theorem shaK_len : shaK.length = 64 := rfl
def rol32 (x : BitVec 32) (s : Nat) : BitVec 32 := x <<< s ||| x >>> (32 - s)
def ror32 (x : BitVec 32) (n : Nat) : BitVec 32 := x >>> n ||| x <<< (32 - n)
theorem rol_ror (x : BitVec 32) (n : Nat) (h0 : 0 < n) (h1 : n < 32) : rol32 x (32 - n) = ror32 x n := by
  unfold rol32 ror32
  rw [show 32 - (32 - n) = n by omega, BitVec.or_comm]
theorem rol32_and (x : BitVec 32) (s : Nat) (hs : s < 32) : x <<< (BitVec.ofNat 64 s).toNat ||| x >>> (32#64 - BitVec.ofNat 64 s).toNat = rol32 x s := by
  have h1 : (BitVec.ofNat 64 s).toNat = s := by rw [BitVec.toNat_ofNat]; omega
  have h2 : (32#64 - BitVec.ofNat 64 s).toNat = 32 - s := by rw [BitVec.toNat_sub, h1]; simp; omega
  rw [h1, h2]; rfl
/-- What stands behind a message of n bytes. -/
def padb (n : Nat) : List (BitVec 8) := 0x80#8 :: (List.replicate ((119 - n % 64) % 64) 0#8 ++ highb (BitVec.ofNat 64 n * 8#64) 8 8)
def plen (n : Nat) : Nat := 1 + (119 - n % 64) % 64 + 8
theorem padb_len (n : Nat) : (padb n).length = plen n := by unfold padb plen; simp [highb_len]; omega
theorem plen_le (n : Nat) : plen n ≤ 72 := by unfold plen; omega
theorem plen_mod (n : Nat) : (n + plen n) % 64 = 0 := by unfold plen; omega
/-- A list, and zeros behind it up to n. -/
def fil {w : Nat} (xs : List (BitVec w)) (n : Nat) : List (BitVec w) := xs ++ List.replicate (n - xs.length) 0
theorem fil_len {w : Nat} (xs : List (BitVec w)) (n : Nat) (h : xs.length ≤ n) : (fil xs n).length = n := by unfold fil; simp; omega
theorem ath_fil {w : Nat} (xs : List (BitVec w)) (n j : Nat) (h : j < xs.length) : ath (fil xs n) j = ath xs j := ath_app_l _ _ _ h
theorem fil_set {w : Nat} (xs : List (BitVec w)) (n : Nat) (v : BitVec w) (h : xs.length < n) : (fil xs n).set xs.length v = fil (xs ++ [v]) n := by
  unfold fil
  rw [List.set_append_right _ _ (Nat.le_refl _), Nat.sub_self]
  rw [show n - xs.length = (n - (xs ++ [v]).length) + 1 by simp; omega, List.replicate_succ, List.set_cons_zero]
  simp
def sig0 (x : BitVec 32) : BitVec 32 := ror32 x 7 ^^^ ror32 x 18 ^^^ x >>> 3
def sig1 (x : BitVec 32) : BitVec 32 := ror32 x 17 ^^^ ror32 x 19 ^^^ x >>> 10
/-- A word of a block's schedule, out of those ahead of it. -/
def schn (b : List (BitVec 8)) (ws : List (BitVec 32)) (k : Nat) : BitVec 32 :=
  if k < 16 then (high (b.drop (4 * k)) 4).setWidth 32 else ath ws (k - 16) + sig0 (ath ws (k - 15)) + ath ws (k - 7) + sig1 (ath ws (k - 2))
def schw (b : List (BitVec 8)) : Nat → List (BitVec 32)
  | 0 => []
  | k + 1 => schw b k ++ [schn b (schw b k) k]
theorem schw_len (b : List (BitVec 8)) : ∀ k, (schw b k).length = k
  | 0 => rfl
  | k + 1 => by rw [schw, List.length_append, schw_len b k]; rfl
theorem fschw_len (b : List (BitVec 8)) (k : Nat) (h : k ≤ 64) : (fil (schw b k) 64).length = 64 := fil_len _ _ (by rw [schw_len]; exact h)
theorem schw_lo (b : List (BitVec 8)) (k : Nat) (h : k < 16) : (fil (schw b k) 64).set k ((high (b.drop (4 * k)) 4).setWidth 32) = fil (schw b (k + 1)) 64 := by
  have := fil_set (schw b k) 64 (schn b (schw b k) k) (by rw [schw_len]; omega)
  rw [schw_len] at this
  rw [schw, ← this, schn, if_pos h]
theorem schw_hi (b : List (BitVec 8)) (k : Nat) (h : 16 ≤ k) (h2 : k < 64) (v : BitVec 32) (hv : v = ath (fil (schw b k) 64) (k - 16) + sig0 (ath (fil (schw b k) 64) (k - 15)) + ath (fil (schw b k) 64) (k - 7) + sig1 (ath (fil (schw b k) 64) (k - 2))) : (fil (schw b k) 64).set k v = fil (schw b (k + 1)) 64 := by
  have := fil_set (schw b k) 64 (schn b (schw b k) k) (by rw [schw_len]; omega)
  rw [schw_len] at this
  rw [schw, ← this, schn, if_neg (by omega), hv]
  rw [ath_fil _ _ _ (by rw [schw_len]; omega), ath_fil _ _ _ (by rw [schw_len]; omega), ath_fil _ _ _ (by rw [schw_len]; omega), ath_fil _ _ _ (by rw [schw_len]; omega)]
theorem fil_zero (b : List (BitVec 8)) : (List.replicate 64 0#32) = fil (schw b 0) 64 := rfl
/-- A round. -/
def rnd (a : List (BitVec 32)) (k w : BitVec 32) : List (BitVec 32) :=
  [ath a 7 + (ror32 (ath a 4) 6 ^^^ ror32 (ath a 4) 11 ^^^ ror32 (ath a 4) 25) + (ath a 4 &&& ath a 5 ^^^ ~~~ath a 4 &&& ath a 6) + k + w +
    ((ror32 (ath a 0) 2 ^^^ ror32 (ath a 0) 13 ^^^ ror32 (ath a 0) 22) + (ath a 0 &&& ath a 1 ^^^ ath a 0 &&& ath a 2 ^^^ ath a 1 &&& ath a 2)),
   ath a 0, ath a 1, ath a 2,
   ath a 3 + (ath a 7 + (ror32 (ath a 4) 6 ^^^ ror32 (ath a 4) 11 ^^^ ror32 (ath a 4) 25) + (ath a 4 &&& ath a 5 ^^^ ~~~ath a 4 &&& ath a 6) + k + w),
   ath a 4, ath a 5, ath a 6]
def rounds (s ws : List (BitVec 32)) : Nat → List (BitVec 32)
  | 0 => s
  | k + 1 => rnd (rounds s ws k) (ath shaK k) (ath ws k)
theorem rounds_len (s ws : List (BitVec 32)) (h : s.length = 8) : ∀ k, (rounds s ws k).length = 8
  | 0 => h
  | _ + 1 => rfl
def addt (s a : List (BitVec 32)) : Nat → List (BitVec 32)
  | 0 => s
  | k + 1 => (addt s a k).set k (ath (addt s a k) k + ath a k)
theorem addt_len (s a : List (BitVec 32)) : ∀ k, (addt s a k).length = s.length
  | 0 => rfl
  | k + 1 => by rw [addt, List.length_set, addt_len s a k]
/-- A state behind a block. -/
def mixb (s : List (BitVec 32)) (b : List (BitVec 8)) : List (BitVec 32) := addt s (rounds s (schw b 64) 64) 8
theorem rounds_succ (s ws : List (BitVec 32)) (k : Nat) : rounds s ws (k + 1) = rnd (rounds s ws k) (ath shaK k) (ath ws k) := rfl
theorem rounds_zero (s ws : List (BitVec 32)) : rounds s ws 0 = s := rfl
theorem addt_succ (s a : List (BitVec 32)) (k : Nat) : addt s a (k + 1) = (addt s a k).set k (ath (addt s a k) k + ath a k) := rfl
theorem addt_zero (s a : List (BitVec 32)) : addt s a 0 = s := rfl
theorem mixb_def (s : List (BitVec 32)) (b : List (BitVec 8)) : mixb s b = addt s (rounds s (schw b 64) 64) 8 := rfl
theorem fil_all (b : List (BitVec 8)) : fil (schw b 64) 64 = schw b 64 := by unfold fil; rw [schw_len]; simp
theorem sig0_def (x : BitVec 32) : ror32 x 7 ^^^ ror32 x 18 ^^^ x >>> 3 = sig0 x := rfl
theorem sig1_def (x : BitVec 32) : ror32 x 17 ^^^ ror32 x 19 ^^^ x >>> 10 = sig1 x := rfl
theorem mixb_len (s : List (BitVec 32)) (b : List (BitVec 8)) : (mixb s b).length = s.length := addt_len _ _ 8
def shaH : List (BitVec 32) := [0x6a09e667#32, 0xbb67ae85#32, 0x3c6ef372#32, 0xa54ff53a#32, 0x510e527f#32, 0x9b05688c#32, 0x1f83d9ab#32, 0x5be0cd19#32]
/-- The state behind k blocks. -/
def hst (m : List (BitVec 8)) : Nat → List (BitVec 32)
  | 0 => shaH
  | k + 1 => mixb (hst m k) ((m.drop (64 * k)).take 64)
theorem hst_len (m : List (BitVec 8)) : ∀ k, (hst m k).length = 8
  | 0 => rfl
  | k + 1 => by rw [hst, mixb_len, hst_len m k]
theorem hst_zero (m : List (BitVec 8)) : hst m 0 = shaH := rfl
theorem hst_succ (m : List (BitVec 8)) (k : Nat) : hst m (k + 1) = mixb (hst m k) ((m.drop (64 * k)).take 64) := rfl
def shaout (s : List (BitVec 32)) : Nat → List (BitVec 8)
  | 0 => []
  | k + 1 => shaout s k ++ highb ((ath s k).setWidth 64) 4 4
theorem shaout_len (s : List (BitVec 32)) : ∀ k, (shaout s k).length = 4 * k
  | 0 => rfl
  | k + 1 => by rw [shaout, List.length_append, shaout_len s k, highb_len]; omega
theorem shaout_zero (s : List (BitVec 32)) : shaout s 0 = [] := rfl
theorem shaout_succ (s : List (BitVec 32)) (k : Nat) : shaout s (k + 1) = shaout s k ++ highb ((ath s k).setWidth 64) 4 4 := rfl
def shamsg (b : List (BitVec 8)) : List (BitVec 8) := b ++ padb b.length
theorem shamsg_len (b : List (BitVec 8)) : (shamsg b).length = b.length + plen b.length := by unfold shamsg; rw [List.length_append, padb_len]
theorem shamsg_def (b : List (BitVec 8)) : b ++ padb b.length = shamsg b := rfl
/-- SHA-256. -/
def shasum (b : List (BitVec 8)) : List (BitVec 8) := shaout (hst (shamsg b) ((b.length + plen b.length + 64 - 1) / 64)) 8
theorem shasum_def (b : List (BitVec 8)) : shasum b = shaout (hst (shamsg b) ((b.length + plen b.length + 64 - 1) / 64)) 8 := rfl
theorem shasum_len (b : List (BitVec 8)) : (shasum b).length = 32 := shaout_len _ 8
theorem shaH_len : shaH.length = 8 := rfl
theorem shablk (b : List (BitVec 8)) (k : Nat) (hk : k < (b.length + plen b.length + 64 - 1) / 64) : min 64 (b.length + plen b.length - 64 * k) = 64 ∧ (List.take 64 (List.drop (64 * k) (shamsg b))).length = 64 := by
  have h1 := plen_mod b.length
  have h2 := shamsg_len b
  constructor
  · omega
  · rw [List.length_take, List.length_drop, h2]; omega
attribute [irreducible] hst shaout shasum shamsg shaH plen padb
attribute [irreducible] schw rounds addt mixb shaK
end Go.Proofs.Ytlplpmkdebemnaa
namespace Go.Proofs.Ytlplpmkdebemnaa
set_option linter.unusedVariables false
set_option linter.unusedSimpArgs false
set_option linter.unnecessarySimpa false
set_option maxRecDepth 100000
open Go.RowKit Bv Fw

set_option maxHeartbeats 4000000 in
theorem words_f  (w : World) (hO : HOK [] w)  : Calls Try.prog 107 [].toArray w (Ret (T := Unit) [] w (fun _ => True) (fun _ => (.agg (shaK.map b32).toArray)) (fun _ => [])) := by
 have hkl := shaK_len
 have hF : Wid Fence.wide := wid_wide
 refine enter (c := _) Try.func107 rfl [] _ [] (by rw [Try.ntmps107]; rfl) (own_rds hO rfl) ?_
 rw [Try.ntmps107]
 refine T_re [] sn ?_
 refine T_he [] [] ⟨by decide, rfl⟩ ?_
 refine Tsr hF rfl ?_
 refine L_op rfl (op_alloc (z := .agg ((List.replicate 64 0#32).map b32).toArray) (zs := ((List.replicate 64 0#32).map b32)) kr rfl rfl rfl rfl (fun g1 => ?_))
 refine L_nil ?_
 refine Tsr hF rfl ?_
 refine lo rfl (pr_build (qs := [(0, (b32 (1116352408#32))), (1, (b32 (1899447441#32))), (2, (b32 (3049323471#32))), (3, (b32 (3921009573#32))), (4, (b32 (961987163#32))), (5, (b32 (1508970993#32))), (6, (b32 (2453635748#32))), (7, (b32 (2870763221#32))), (8, (b32 (3624381080#32))), (9, (b32 (310598401#32))), (10, (b32 (607225278#32))), (11, (b32 (1426881987#32))), (12, (b32 (1925078388#32))), (13, (b32 (2162078206#32))), (14, (b32 (2614888103#32))), (15, (b32 (3248222580#32))), (16, (b32 (3835390401#32))), (17, (b32 (4022224774#32))), (18, (b32 (264347078#32))), (19, (b32 (604807628#32))), (20, (b32 (770255983#32))), (21, (b32 (1249150122#32))), (22, (b32 (1555081692#32))), (23, (b32 (1996064986#32))), (24, (b32 (2554220882#32))), (25, (b32 (2821834349#32))), (26, (b32 (2952996808#32))), (27, (b32 (3210313671#32))), (28, (b32 (3336571891#32))), (29, (b32 (3584528711#32))), (30, (b32 (113926993#32))), (31, (b32 (338241895#32))), (32, (b32 (666307205#32))), (33, (b32 (773529912#32))), (34, (b32 (1294757372#32))), (35, (b32 (1396182291#32))), (36, (b32 (1695183700#32))), (37, (b32 (1986661051#32))), (38, (b32 (2177026350#32))), (39, (b32 (2456956037#32))), (40, (b32 (2730485921#32))), (41, (b32 (2820302411#32))), (42, (b32 (3259730800#32))), (43, (b32 (3345764771#32))), (44, (b32 (3516065817#32))), (45, (b32 (3600352804#32))), (46, (b32 (4094571909#32))), (47, (b32 (275423344#32))), (48, (b32 (430227734#32))), (49, (b32 (506948616#32))), (50, (b32 (659060556#32))), (51, (b32 (883997877#32))), (52, (b32 (958139571#32))), (53, (b32 (1322822218#32))), (54, (b32 (1537002063#32))), (55, (b32 (1747873779#32))), (56, (b32 (1955562222#32))), (57, (b32 (2024104815#32))), (58, (b32 (2227730452#32))), (59, (b32 (2361852424#32))), (60, (b32 (2428436474#32))), (61, (b32 (2756734187#32))), (62, (b32 (3204031479#32))), (63, (b32 (3329325298#32)))]) (v := .agg ([1116352408#32, 1899447441#32, 3049323471#32, 3921009573#32, 961987163#32, 1508970993#32, 2453635748#32, 2870763221#32, 3624381080#32, 310598401#32, 607225278#32, 1426881987#32, 1925078388#32, 2162078206#32, 2614888103#32, 3248222580#32, 3835390401#32, 4022224774#32, 264347078#32, 604807628#32, 770255983#32, 1249150122#32, 1555081692#32, 1996064986#32, 2554220882#32, 2821834349#32, 2952996808#32, 3210313671#32, 3336571891#32, 3584528711#32, 113926993#32, 338241895#32, 666307205#32, 773529912#32, 1294757372#32, 1396182291#32, 1695183700#32, 1986661051#32, 2177026350#32, 2456956037#32, 2730485921#32, 2820302411#32, 3259730800#32, 3345764771#32, 3516065817#32, 3600352804#32, 4094571909#32, 275423344#32, 430227734#32, 506948616#32, 659060556#32, 883997877#32, 958139571#32, 1322822218#32, 1537002063#32, 1747873779#32, 1955562222#32, 2024104815#32, 2227730452#32, 2361852424#32, 2428436474#32, 2756734187#32, 3204031479#32, 3329325298#32].map b32).toArray) (fun _ => by kernel_rfl) rfl rfl) rfl rfl ?_
 refine L_op rfl (op_sto (n := 64) (vs := ([1116352408#32, 1899447441#32, 3049323471#32, 3921009573#32, 961987163#32, 1508970993#32, 2453635748#32, 2870763221#32, 3624381080#32, 310598401#32, 607225278#32, 1426881987#32, 1925078388#32, 2162078206#32, 2614888103#32, 3248222580#32, 3835390401#32, 4022224774#32, 264347078#32, 604807628#32, 770255983#32, 1249150122#32, 1555081692#32, 1996064986#32, 2554220882#32, 2821834349#32, 2952996808#32, 3210313671#32, 3336571891#32, 3584528711#32, 113926993#32, 338241895#32, 666307205#32, 773529912#32, 1294757372#32, 1396182291#32, 1695183700#32, 1986661051#32, 2177026350#32, 2456956037#32, 2730485921#32, 2820302411#32, 3259730800#32, 3345764771#32, 3516065817#32, 3600352804#32, 4094571909#32, 275423344#32, 430227734#32, 506948616#32, 659060556#32, 883997877#32, 958139571#32, 1322822218#32, 1537002063#32, 1747873779#32, 1955562222#32, 2024104815#32, 2227730452#32, 2361852424#32, 2428436474#32, 2756734187#32, 3204031479#32, 3329325298#32].map b32)) 0 rfl rfl kr (all32_one _) kr kr rfl rfl rfl rfl ?_)
 refine L_nil ?_
 refine T_ret ?_
 refine T_as 0 _ (.blk g1 159 (shaK.map b32)) rfl (by unfold shaK; rfl) ?_
 exact T_fin () (by first | trivial | omega | (simp; done)) (resb 0 rfl rfl rfl Try.underlying159 rfl (fwz (n := 64) kr sd)) [] ⟨by decide, rfl⟩ rfl
set_option maxHeartbeats 4000000 in
theorem rotl32_f (x : BitVec 32) (k : Int) (s : Nat) (w : World) (hO : HOK [] w) (hs : s < 32) (hk : k % 32 = (s : Int)) : Calls Try.prog 98 [(b32 x), (.int .i64 k)].toArray w (Ret (T := Unit) [] w (fun _ => True) (fun _ => (b32 (rol32 x s))) (fun _ => [])) := by
 have hF : Wid Fence.wide := wid_wide
 refine enter (c := _) Try.func98 rfl [] _ [] (by rw [Try.ntmps98]; rfl) (own_rds hO rfl) ?_
 rw [Try.ntmps98]
 refine T_re [(0, (b32 x)), (1, (.int .i64 k))] (sc rfl (sc rfl sn)) ?_
 refine T_he [] [] ⟨by decide, rfl⟩ ?_
 refine Tsr hF rfl ?_
 refine la rfl rfl rfl rfl rfl ?_
 refine L_nil ?_
 refine Tsr hF rfl ?_
 refine lm rfl rfl rfl rfl rfl ?_
 refine lo rfl (pr_cv (zc_u64 k) Try.underlying3 Try.underlying22 rfl rfl) rfl rfl ?_
 refine lo rfl (pr_and (ib_and64 _ (31#64)) rfl rfl rfl) rfl rfl ?_
 refine la rfl rfl rfl rfl rfl ?_
 refine L_nil ?_
 refine Tsr hF rfl ?_
 refine lm rfl rfl rfl rfl rfl ?_
 refine lm rfl rfl rfl rfl rfl ?_
 refine lo rfl (pr_shift (sh_shl32 x _ (((BitVec.ofInt 64 k) &&& 31#64).toNat)) rfl rfl rfl rfl) rfl rfl ?_
 refine lm rfl rfl rfl rfl rfl ?_
 refine lm rfl rfl rfl rfl rfl ?_
 refine lo rfl (pr_sub (sub64 (32#64) _) rfl rfl rfl) rfl rfl ?_
 refine lo rfl (pr_shift (sh_shr32 x _ ((32#64 - ((BitVec.ofInt 64 k) &&& 31#64)).toNat)) rfl rfl rfl rfl) rfl rfl ?_
 refine lo rfl (pr_or (ib_or32 _ _) rfl rfl rfl) rfl rfl ?_
 refine la rfl rfl rfl rfl rfl ?_
 refine L_nil ?_
 refine T_ret ?_
 refine T_slot 4 _ (b32 (rol32 x s)) rfl (by rw [rot_and k s hs hk]; exact congrArg b32 (rol32_and x s hs)) ?_
 exact T_fin () (by first | trivial | omega | (simp; done)) (res1 rfl rfl) [] ⟨by decide, rfl⟩ rfl
set_option maxHeartbeats 4000000 in
theorem rotated_f (x : BitVec 32) (n : Nat) (w : World) (hO : HOK [] w) (h0 : 0 < n) (h1 : n < 32) : Calls Try.prog 112 [(b32 x), (.int .i64 ((n : Nat) : Int))].toArray w (Ret (T := Unit) [] w (fun _ => True) (fun _ => (b32 (ror32 x n))) (fun _ => [])) := by
 have hF : Wid Fence.wide := wid_wide
 refine enter (c := _) Try.func112 rfl [] _ [] (by rw [Try.ntmps112]; rfl) (own_rds hO rfl) ?_
 rw [Try.ntmps112]
 refine T_re [(0, (b32 x)), (1, (.int .i64 ((n : Nat) : Int)))] (sc rfl (sc rfl sn)) ?_
 refine T_he [] [] ⟨by decide, rfl⟩ ?_
 refine Tsr hF rfl ?_
 refine la rfl rfl rfl rfl rfl ?_
 refine L_nil ?_
 refine Tsr hF rfl ?_
 refine lm rfl rfl rfl rfl rfl ?_
 refine lm rfl rfl rfl rfl rfl ?_
 refine lo rfl (pr_un (un_negi (a := n) sd) rfl rfl) rfl rfl ?_
 refine L_op rfl (op_cn (fun w hw => rotl32_f x (-((n : Nat) : Int)) (32 - n) w (hok_nil w) sd (by omega)) (enters_of Try.func98 kr rfl) rfl rfl rfl rfl rfl (fun t1 q2 => ?_))
 refine la rfl rfl rfl rfl rfl ?_
 refine L_nil ?_
 refine T_ret ?_
 refine T_slot 4 (b32 (rol32 x (32 - n))) (b32 (ror32 x n)) rfl (by rw [rol_ror x n h0 h1]) ?_
 exact T_fin () (by first | trivial | omega | (simp; done)) (res1 rfl rfl) [] ⟨by decide, rfl⟩ rfl
set_option maxHeartbeats 4000000 in
theorem pad_f (n : Nat) (w : World) (hO : HOK [] w) (hn : n ≤ 1100000000000) : Calls Try.prog 106 [(.int .i64 ((n : Nat) : Int))].toArray w (Ret (T := Option Addr × Nat) [] w (fun ⟨B, d⟩ => True) (fun ⟨B, d⟩ => (.slice B (plen n) d)) (fun ⟨B, d⟩ => [.row (.slice B (plen n) d) 5 1 (plen n) ((padb n).map b8)])) := by
 have hF : Wid Fence.wide := wid_wide
 refine enter (c := _) Try.func106 rfl [] _ [] (by rw [Try.ntmps106]; rfl) (own_rds hO rfl) ?_
 rw [Try.ntmps106]
 refine T_re [(0, (.int .i64 ((n : Nat) : Int)))] (sc rfl sn) ?_
 refine T_he [] [] ⟨by decide, rfl⟩ ?_
 refine Tsr hF rfl ?_
 refine la rfl rfl rfl rfl rfl ?_
 refine L_nil ?_
 refine Tsr hF rfl ?_
 refine lm rfl rfl rfl rfl rfl ?_
 refine lo rfl ((pr_as (pr_max rfl rfl rfl) (nmax (k := .i64) (a := n) (b := 0)))) rfl rfl ?_
 refine la rfl rfl rfl rfl rfl ?_
 refine L_nil ?_
 refine Tsr hF rfl ?_
 refine L_op rfl (op_bslice (e := 5) (zs := [(b8 (128#8))]) (qs := [(0, (b8 (128#8)))]) (fun _ => by kernel_rfl) rfl rfl rfl rfl (fun g1 => ?_))
 refine lm rfl rfl rfl rfl rfl ?_
 refine lo rfl (pr_rem (a := max n 0) (b := 64) sd rfl rfl rfl) rfl rfl ?_
 refine lo rfl (pr_sub (ns_i64 (a := 119) (b := (max n 0) % 64) sd sd) rfl rfl rfl) rfl rfl ?_
 refine lo rfl (pr_rem (a := 119 - ((max n 0) % 64)) (b := 64) sd rfl rfl rfl) rfl rfl ?_
 refine T_rowb 0 (zs := [(b8 (128#8))]) 1 1 1 rfl sd sd rfl rfl ?_
 refine L_op rfl (op_append0 (z := (b8 (0#8))) (bytes := 1) (m := (119 - ((max n 0) % 64)) % 64) 0 rfl Try.underlying23 Try.underlying3 kr rfl rfl sd sd rfl rfl rfl rfl rfl (fun A2 C3 => ?_))
 refine T_as 0 _ (.row (.slice A2 (1 + ((119 - ((max n 0) % 64)) % 64)) C3) 5 1 (1 + ((119 - ((max n 0) % 64)) % 64)) (([128#8] ++ (List.replicate ((119 - ((max n 0) % 64)) % 64) 0#8)).map b8)) rfl (by first | rfl | (congr 1; simp)) ?_
 refine la rfl rfl rfl rfl rfl ?_
 refine L_nil ?_
 refine Tsr hF rfl ?_
 refine lm rfl rfl rfl rfl rfl ?_
 refine lm rfl rfl rfl rfl rfl ?_
 refine lo rfl (pr_cv (nw64 (max n 0)) Try.underlying3 Try.underlying30 rfl rfl) rfl rfl ?_
 refine lo rfl (pr_mul (mul64 _ (8#64)) rfl rfl rfl) rfl rfl ?_
 refine L_op rfl (op_c1 0 rfl (fun w hw => putHigh_f ([128#8] ++ (List.replicate ((119 - ((max n 0) % 64)) % 64) 0#8)) ((BitVec.ofNat 64 (max n 0)) * 8#64) 8 A2 (1 + ((119 - ((max n 0) % 64)) % 64)) C3 w (hw _ (List.mem_of_getElem? (i := 0) rfl)) sd sd) (enters_of Try.func109 kr rfl) rfl rfl rfl rfl rfl (fun t4 q5 => ?_))
 obtain ⟨B6, d7⟩ := t4
 refine la rfl rfl rfl rfl rfl ?_
 refine L_nil ?_
 refine T_ret ?_
 refine T_slot 2 (.slice B6 ((1 + ((119 - ((max n 0) % 64)) % 64)) + 8) d7) (.slice B6 (plen n) d7) rfl (by simp [plen]) ?_
 refine T_as 0 _ (.row (.slice B6 (plen n) d7) 5 1 (plen n) ((padb n).map b8)) rfl (by simp [padb, plen]) ?_
 exact T_fin (B6, d7) (by first | trivial | omega | (simp; done)) (res1 rfl rfl) [0] ⟨by decide, rfl⟩ rfl
end Go.Proofs.Ytlplpmkdebemnaa
