/- A walk by facts: fields of structs; structs held against each other; results of which one lies in memory. No conditions. -/
import Derived.Test.YtlplpmkdebemnaaFwY
import Derived.Laws.StructEq
namespace Go.Proofs.Ytlplpmkdebemnaa.Fw
set_option linter.unusedVariables false
set_option linter.unusedSimpArgs false
open Go.RowKit Bv
section
variable {P : Program} {X : Cx} {s : List (Nat × Value)} {h : List HA} {o : Oper} {K K0 J : Jd}
/-- The address of a field. -/
theorem pr_fa {x : Operand} {t : TypeId} {fs : Array Field} {f : Field} {i g m m' z : Nat} (hm : m + f.offset = m') (ht : P.underlying t = some (.struct fs)) (hf : fs[i]? = some f) (hz : (P.info? f.type).map (·.size) = some (z + 1)) (ho : o.op = .fieldAddr t x i) (hx : ev s x = some (.pointer (some ⟨g, m, none⟩))) :
    Pr P s h o (.pointer (some ⟨g, m', none⟩)) := fun e he w hw w' => by
  subst hm
  unfold execOp; rw [ho]
  simp [he _ _ hx, Instr.fieldAt, Instr.sureAddr, run_underlying ht, hf, fieldPlace, run_sizeOf hz, Addr.add_lit]
theorem pr_eqs {bo : BinOp} {ty ty2 : TypeId} {x y : Operand} {xs ys : List Value} {c r : Bool} (hr : ∀ d w, (Op.equalIn (d + 3) ty (.agg xs.toArray) (.agg ys.toArray)).run P w = .ok c w) (hg : Program.eqGuardType P (Program.depth P) ty = false) (hb : (match bo with | .eql => c | .neq => !c | _ => r) = r) (hbo : (bo == .eql || bo == .neq) = true)
    (ho : o.op = .binOp bo ty x y ty2) (hx : ev s x = some (.agg xs.toArray)) (hy : ev s y = some (.agg ys.toArray)) : Pr P s h o (.bool r) := fun e he w hw w' => by
  unfold execOp
  simp only [ho, he _ _ hx, he _ _ hy, Sem.run_bind, run_eqGuard_agg w' _ _ _ _ _ _ hg, Result.andThen_ok]
  have h1 := hr 9997 w'
  cases bo <;> first
    | (cases hbo; done)
    | (simp only at hb; subst hb; rw [run_eql_struct, h1]; rfl)
    | (simp only at hb; subst hb; rw [run_neq_struct, h1]; rfl)
section
variable {w : World} {d : Nat} {t : TypeId} {xs ys : List Value}
theorem eqs {fs : Array Field} {r : Bool} (ht : P.underlying t = some (.struct fs)) (hp : P.stoodInHeld t = false) (h : (Op.eqFields d xs.toArray ys.toArray fs.toList).run P w = .ok r w) : (Op.equalIn (d + 1) t (.agg xs.toArray) (.agg ys.toArray)).run P w = .ok r w := by
  have e : P.fieldsOf t = fs := by unfold Program.fieldsOf; rw [ht]
  rw [run_equalIn_struct w d t _ _ (by rw [e]; exact ht) hp, e]; exact h
theorem eqf_nil : (Op.eqFields d xs.toArray ys.toArray []).run P w = .ok true w := by simp [Op.eqFields]
theorem eqf {f : Field} {fs : List Field} {a b : Value} {c r : Bool} (hn : (f.name != "_") = true) (ha : (part f.type xs.toArray f.offset).run P w = .ok a w) (hb : (part f.type ys.toArray f.offset).run P w = .ok b w) (he : (Op.equalIn d f.type a b).run P w = .ok c w) (hr : (Op.eqFields d xs.toArray ys.toArray fs).run P w = .ok r w) :
    (Op.eqFields d xs.toArray ys.toArray (f :: fs)).run P w = .ok (c && r) w := by
  unfold Op.eqFields
  rw [if_pos (by simpa using hn)]
  simp only [Sem.run_bind, ha, hb, he, Result.andThen_ok]
  cases c <;> simp [hr]
/-- A field that both have alike. -/
theorem eqt {f : Field} {fs : List Field} {a b : Value} {r : Bool} (hn : (f.name != "_") = true) (ha : (part f.type xs.toArray f.offset).run P w = .ok a w) (hb : (part f.type ys.toArray f.offset).run P w = .ok b w) (he : (Op.equalIn d f.type a b).run P w = .ok true w) (hr : (Op.eqFields d xs.toArray ys.toArray fs).run P w = .ok r w) :
    (Op.eqFields d xs.toArray ys.toArray (f :: fs)).run P w = .ok r w := eqf hn ha hb he hr
theorem part1 {td : TypeDesc} {v : Value} {off : Nat} (ht : P.underlying t = some td) (hn : isAggT td = false) (hx : xs[off]? = some v) : (part t xs.toArray off).run P w = .ok v w := by
  unfold part isAgg
  simp only [Sem.run_bind, run_underlying ht, Result.andThen_ok]
  cases td <;> simp_all [isAggT]
theorem partA {td : TypeDesc} {zs : List Value} {off n : Nat} (ht : P.underlying t = some td) (hn : isAggT td = true) (hz : (P.info? t).map (·.size) = some n) (hx : (xs.drop off).take n = zs) : (part t xs.toArray off).run P w = .ok (.agg zs.toArray) w := by
  unfold part isAgg
  simp only [Sem.run_bind, run_underlying ht, Result.andThen_ok]
  cases td <;> simp_all [isAggT, run_sizeOf hz]
theorem eqv_i {k k' : IntKind} {a b : Int} (ht : P.underlying t = some (.int k')) : (Op.equalIn (d + 1) t (.int k a) (.int k b)).run P w = .ok (a == b) w := run_equalIn_int w d t k k' a b ht
theorem eqv_n {k k' : IntKind} {a b : Nat} (ht : P.underlying t = some (.int k')) : (Op.equalIn (d + 1) t (.int k (a : Int)) (.int k (b : Int))).run P w = .ok (a == b) w := by
  rw [run_equalIn_int w d t k k' _ _ ht]
  have : (((a : Nat) : Int) == ((b : Nat) : Int)) = (a == b) := by rw [Bool.eq_iff_iff, beq_iff_eq, beq_iff_eq]; omega
  rw [this]
theorem eqv_8 {k' : IntKind} {a b : BitVec 8} (ht : P.underlying t = some (.int k')) : (Op.equalIn (d + 1) t (b8 a) (b8 b)).run P w = .ok (a == b) w := by
  rw [b8, b8, run_equalIn_int w d t _ k' _ _ ht, n8_beq]
theorem eqv_64 {k' : IntKind} {a b : BitVec 64} (ht : P.underlying t = some (.int k')) : (Op.equalIn (d + 1) t (b64 a) (b64 b)).run P w = .ok (a == b) w := by
  rw [b64, b64, run_equalIn_int w d t _ k' _ _ ht, n64_beq]
theorem eqv_b {a b : Bool} (ht : P.underlying t = some .bool) : (Op.equalIn (d + 1) t (.bool a) (.bool b)).run P w = .ok (a == b) w := run_equalIn_bool w d t a b ht
theorem eqv_si {k k' : IntKind} {a : Int} (ht : P.underlying t = some (.int k')) : (Op.equalIn (d + 1) t (.int k a) (.int k a)).run P w = .ok true w := by
  rw [run_equalIn_int w d t k k' a a ht]; simp
theorem eqv_sb {a : Bool} (ht : P.underlying t = some .bool) : (Op.equalIn (d + 1) t (.bool a) (.bool a)).run P w = .ok true w := by
  rw [run_equalIn_bool w d t a a ht]; simp
/-- Two arrays of two numbers. -/
theorem eqv_a2 {e : TypeId} {k' : IntKind} {a b a' b' : BitVec 64} (ht : P.underlying t = some (.array 2 e)) (he : P.underlying e = some (.int k')) (hz : (P.info? e).map (·.size) = some 1) :
    (Op.equalIn (d + 2) t (.agg [b64 a, b64 b].toArray) (.agg [b64 a', b64 b'].toArray)).run P w = .ok ((a == a') && (b == b')) w := by
  have p : ∀ (zs : List Value) v i, zs[i]? = some v → (part e zs.toArray i).run P w = .ok v w := fun zs v i hx => part1 he rfl hx
  have e1 := eqv_64 (P := P) (w := w) (d := d) (a := a) (b := a') he
  have e2 := eqv_64 (P := P) (w := w) (d := d) (a := b) (b := b') he
  have p0 := p [b64 a, b64 b] (b64 a) 0 rfl
  have p1 := p [b64 a, b64 b] (b64 b) 1 rfl
  have q0 := p [b64 a', b64 b'] (b64 a') 0 rfl
  have q1 := p [b64 a', b64 b'] (b64 b') 1 rfl
  generalize (a == a') = c1 at e1 ⊢
  generalize (b == b') = c2 at e2 ⊢
  rw [Op.equalIn]
  simp only [Sem.run_bind, run_underlying ht, Result.andThen_ok, run_sizeOf hz, Std.Legacy.Range.forIn_eq_forIn_range', Std.Legacy.Range.size, List.range'_succ, List.range', List.forIn_cons, List.forIn_nil, Nat.reduceAdd, Nat.reduceSub, Nat.reduceDiv, Nat.mul_one, Nat.zero_mul, p0, p1, q0, q1, e1, e2]
  cases c1 <;> cases c2 <;> simp [p1, q1, e2]
theorem eqv_sa2 {e : TypeId} {k' : IntKind} {a b : BitVec 64} (ht : P.underlying t = some (.array 2 e)) (he : P.underlying e = some (.int k')) (hz : (P.info? e).map (·.size) = some 1) :
    (Op.equalIn (d + 2) t (.agg [b64 a, b64 b].toArray) (.agg [b64 a, b64 b].toArray)).run P w = .ok true w := by
  have h := eqv_a2 (P := P) (w := w) (d := d) (a := a) (b := b) (a' := a) (b' := b) ht he hz
  simpa using h
end
/-- Results of which the first lies in memory. -/
theorem resct {fn : Func} {p u : Nat} {ty : TypeId} {g : Nat} {e' : TypeId} {cs : List Value} {td : TypeDesc} {v : Value} (i : Nat) (hi : h[i]? = some (.blk g e' cs)) (hr : fn.results = #[.cell p ty, .tmp u]) (hp : s.lookup p = some (.pointer (some ⟨g, 0, none⟩))) (ht : P.underlying ty = some td) (hn : isAggT td = true) (hz : (P.info? ty).map (·.size) = some cs.length) (hv : s.lookup u = some v) :
    ResV P fn s h (.tuple #[.agg cs.toArray, v]) := fun tmps hs w hw => by
  have hb : w.heap[g]? = some (.cells cs.toArray e' (0, 0)) := hw _ (List.mem_of_getElem? hi)
  have h1 : tmps[p]?.getD undef = .pointer (some ⟨g, 0, none⟩) := by simp [hs p _ hp]
  have h2 : tmps[u]?.getD undef = v := by simp [hs u _ hv]
  have h3 := run_loadVar_row (P := P) w g e' ty cs.toArray (0, 0) td hb ht (by cases td <;> first | (cases hn; done) | rfl) (by simpa using hz)
  simp [results, hr, h1, h2, asAddr, h3]
theorem resctt {fn : Func} {p u u2 : Nat} {ty : TypeId} {g : Nat} {e' : TypeId} {cs : List Value} {td : TypeDesc} {v v2 : Value} (i : Nat) (hi : h[i]? = some (.blk g e' cs)) (hr : fn.results = #[.cell p ty, .tmp u, .tmp u2]) (hp : s.lookup p = some (.pointer (some ⟨g, 0, none⟩))) (ht : P.underlying ty = some td) (hn : isAggT td = true) (hz : (P.info? ty).map (·.size) = some cs.length) (hv : s.lookup u = some v) (hv2 : s.lookup u2 = some v2) :
    ResV P fn s h (.tuple #[.agg cs.toArray, v, v2]) := fun tmps hs w hw => by
  have hb : w.heap[g]? = some (.cells cs.toArray e' (0, 0)) := hw _ (List.mem_of_getElem? hi)
  have h1 : tmps[p]?.getD undef = .pointer (some ⟨g, 0, none⟩) := by simp [hs p _ hp]
  have h2 : tmps[u]?.getD undef = v := by simp [hs u _ hv]
  have h4 : tmps[u2]?.getD undef = v2 := by simp [hs u2 _ hv2]
  have h3 := run_loadVar_row (P := P) w g e' ty cs.toArray (0, 0) td hb ht (by cases td <;> first | (cases hn; done) | rfl) (by simpa using hz)
  simp [results, hr, h1, h2, h4, asAddr, h3]
theorem rescttt {fn : Func} {p u u2 u3 : Nat} {ty : TypeId} {g : Nat} {e' : TypeId} {cs : List Value} {td : TypeDesc} {v v2 v3 : Value} (i : Nat) (hi : h[i]? = some (.blk g e' cs)) (hr : fn.results = #[.cell p ty, .tmp u, .tmp u2, .tmp u3]) (hp : s.lookup p = some (.pointer (some ⟨g, 0, none⟩))) (ht : P.underlying ty = some td) (hn : isAggT td = true) (hz : (P.info? ty).map (·.size) = some cs.length) (hv : s.lookup u = some v) (hv2 : s.lookup u2 = some v2) (hv3 : s.lookup u3 = some v3) :
    ResV P fn s h (.tuple #[.agg cs.toArray, v, v2, v3]) := fun tmps hs w hw => by
  have hb : w.heap[g]? = some (.cells cs.toArray e' (0, 0)) := hw _ (List.mem_of_getElem? hi)
  have h1 : tmps[p]?.getD undef = .pointer (some ⟨g, 0, none⟩) := by simp [hs p _ hp]
  have h2 : tmps[u]?.getD undef = v := by simp [hs u _ hv]
  have h4 : tmps[u2]?.getD undef = v2 := by simp [hs u2 _ hv2]
  have h5 : tmps[u3]?.getD undef = v3 := by simp [hs u3 _ hv3]
  have h3 := run_loadVar_row (P := P) w g e' ty cs.toArray (0, 0) td hb ht (by cases td <;> first | (cases hn; done) | rfl) (by simpa using hz)
  simp [results, hr, h1, h2, h4, h5, asAddr, h3]
end
end Go.Proofs.Ytlplpmkdebemnaa.Fw
