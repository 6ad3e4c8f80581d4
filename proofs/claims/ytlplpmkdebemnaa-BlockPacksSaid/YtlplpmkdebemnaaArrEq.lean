/- Arrays of bytes held against each other. No conditions. -/
import Derived.Test.YtlplpmkdebemnaaArr
import Derived.Laws.StructEq
import Derived.Stop.BytesEq
namespace Go.Proofs.Ytlplpmkdebemnaa
set_option linter.unusedVariables false
set_option linter.unusedSimpArgs false
open Go.RowKit Bv
section
variable {P : Program} (w : World)
theorem cells_b8 (xs : List (BitVec 8)) : xs.map b8 = (xs.map UInt8.ofBitVec).map Extern.Stop.cell := by
  rw [List.map_map]; rfl
theorem map_of_beq (xs ys : List (BitVec 8)) : (xs.map UInt8.ofBitVec == ys.map UInt8.ofBitVec) = (xs == ys) := by
  rw [Bool.eq_iff_iff]
  simp only [beq_iff_eq]
  exact ⟨fun h => (List.map_inj_right (fun x y h => by cases h; rfl)).1 h, fun h => by rw [h]⟩
theorem run_equalIn_arr (d : Nat) (t e : TypeId) (n : Nat) (xs ys : List (BitVec 8)) (ht : P.underlying t = some (.array n e)) (he : P.underlying e = some (.int .u8)) (hs : (P.info? e).map (·.size) = some 1) (hx : xs.length = n) (hy : ys.length = n) :
    (Op.equalIn (d + 2) t (.agg (xs.map b8).toArray) (.agg (ys.map b8).toArray)).run P w = .ok (xs == ys) w := by
  obtain ⟨i, hi, hi2⟩ := Option.map_eq_some_iff.1 hs
  have hsz : ∀ w, (sizeOf e).run P w = .ok 1 w := fun w => by simp [sizeOf, typeInfo, hi, hi2]
  rw [cells_b8, cells_b8, run_equalIn_bytes w d t e n ht he hsz _ _ (by simpa using hx) (by simpa using hy), map_of_beq]
theorem run_neq_arr (t e : TypeId) (n : Nat) (xs ys : List (BitVec 8)) (ht : P.underlying t = some (.array n e)) (he : P.underlying e = some (.int .u8)) (hs : (P.info? e).map (·.size) = some 1) (hx : xs.length = n) (hy : ys.length = n) :
    (binOp .neq t (.agg (xs.map b8).toArray) (.agg (ys.map b8).toArray)).run P w = .ok (.bool (!(xs == ys))) w := by
  rw [run_neq_struct, run_equalIn_arr w 9998 t e n xs ys ht he hs hx hy]; rfl
theorem run_eql_arr (t e : TypeId) (n : Nat) (xs ys : List (BitVec 8)) (ht : P.underlying t = some (.array n e)) (he : P.underlying e = some (.int .u8)) (hs : (P.info? e).map (·.size) = some 1) (hx : xs.length = n) (hy : ys.length = n) :
    (binOp .eql t (.agg (xs.map b8).toArray) (.agg (ys.map b8).toArray)).run P w = .ok (.bool (xs == ys)) w := by
  rw [run_eql_struct, run_equalIn_arr w 9998 t e n xs ys ht he hs hx hy]; rfl
theorem run_eql_nilFunc (t : TypeId) (f : Fn) (a b : Array Value) (ps rs : Array TypeId) (v : Bool) (ht : P.underlying t = some (.func ps rs v)) :
    (binOp .eql t (.func f #[] b) .nilFunc).run P w = .ok (.bool false) w := by
  have h : (Op.equalIn (9999 + 1) t (.func f #[] b) .nilFunc).run P w = .ok false w := by
    rw [Op.equalIn]
    simp only [Sem.run_bind, run_underlying ht, Result.andThen_ok]
    rfl
  simp only [binOp]
  simp [Op.equal, Op.maxDepth, h]
end
end Go.Proofs.Ytlplpmkdebemnaa
