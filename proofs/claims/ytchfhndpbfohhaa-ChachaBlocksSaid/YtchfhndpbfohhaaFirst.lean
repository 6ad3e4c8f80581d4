/- What the closure of First answers, told a block. No conditions. -/
import Derived.Test.YtchfhndpbfohhaaChBlock2
import Derived.Test.YtchfhndpbfohhaaRefBlock
import Derived.Test.YtchfhndpbfohhaaOwn
namespace Go.Proofs.Ytchfhndpbfohhaa
set_option linter.unusedVariables false
set_option linter.unusedSimpArgs false
open Go.RowKit Bv
/-- What First holds between two blocks: so many are told. -/
structure FS (w0 : World) (B : Nat) (n : Int) (k : Nat) (bs : List (BitVec 8)) (w : World) : Prop where
  nb : Blk w B 3 [.int .i64 n]
  row : ∃ A c, Blk w (B + 1) 56 [.slice A k c] ∧ w.ownsRow (B + 2) 51 64 (.slice A k c) k (bs.map b8)
  below : Below B w0 w
  size : B + 2 ≤ w.heap.size
theorem binfo64 : ∃ i z, Try.prog.info? 51 = some i ∧ i.zero = some z ∧ i.size = 64 ∧ i.bytes = 64 ∧ z.cells.size = 64 := by
  have h : (Try.prog.info? 51).bind (fun i => i.zero.map fun z => (i.size, i.bytes, z.cells.size)) = some (64, 64, 64) := by kernel_rfl
  obtain ⟨i, hi, h1⟩ := Option.bind_eq_some_iff.1 h
  obtain ⟨z, hz, h2⟩ := Option.map_eq_some_iff.1 h1
  simp only [Prod.mk.injEq] at h2
  exact ⟨i, z, hi, hz, h2.1, h2.2.1, h2.2.2⟩

set_option maxHeartbeats 2000000 in
theorem first1_any (w0 : World) (B k : Nat) (n : Int) (bs x : List (BitVec 8)) (w : World) (hx : x.length = 64) (h : FS w0 B n k bs w) (hB : w0.heap.size = B) (hk : k ≤ 1000) :
    Calls Try.prog 51 #[.agg (x.map b8).toArray, .pointer (some ⟨B + 1, 0, none⟩), .pointer (some ⟨B, 0, none⟩)] w
      fun e w' => e = .returned (.bool (decide ((k : Int) + 1 < n))) ∧ FS w0 B n (k + 1) (bs ++ x) w' := by
  obtain ⟨i, z, hi, hz, hz1, hz2, hz3⟩ := binfo64
  have HX := Lib.hid hx
  have H := Lib.hid h
  have hs := h.size
  obtain ⟨A, c, hrow, hown⟩ := h.row
  have HR := Lib.hid hrow; have HO := Lib.hid hown; have HB := Lib.hid hB
  clear h hx hrow hown hB
  go_enter Try.func51, Try.ntmps51
  go_upto_region 1 with (fail)
  refine name_world (fun W => Blk W w.heap.size 51 (x.map b8) ∧ Blk W (B + 1) 56 [.slice A k c] ∧ Blk W B 3 [.int .i64 n] ∧ W.ownsRow (B + 2) 51 64 (.slice A k c) k (bs.map b8) ∧ Below B w0 W ∧ W.heap.size = w.heap.size + 1)
    ⟨blk_new w (x.map b8).toArray 51 _ rfl, HR.out.alloc _, H.out.nb.alloc _, HO.out.alloc _, H.out.below.alloc (by omega) _, by simp⟩ ?_
  rintro W0 ⟨h1, h2, h3, h4, h5, h6⟩
  have K1 := Lib.hid h1; have K2 := Lib.hid h2; have K3 := Lib.hid h3; have K4 := Lib.hid h4; have K5 := Lib.hid h5; have K6 := Lib.hid h6
  have c1 : W0.cell? ⟨B + 1, 0, none⟩ = some (.slice A k c) := h2.cell 0
  clear h1 h2 h3 h4 h5 h6
  apply wp_region_lit
  go_step
  go_step
  go_step
  refine wpList_load_blk rfl rfl rfl K1.out Try.underlying51 (by rw [List.length_map, HX.out]; kernel_rfl) ?_
  refine wpList_buildOne rfl _ 51 _ rfl (x.map b8) i z rfl Try.underlying56 hi hz (by rw [hz1, List.length_map, HX.out]) (by rw [List.length_map, HX.out]; omega) (by rw [List.length_map, HX.out]; omega) ?_
  have hnew := blk_new W0 (x.map b8).toArray 51 _ rfl
  refine wpList_append_own _ rfl _ _ 56 rfl (B + 2) 51 i z 64 64 Try.underlying56 hi hz hz1 hz2 hz3 (by omega) (.slice A k c) k (bs.map b8) rfl (K4.out.alloc _) ⟨W0.heap.size, 0, none⟩ 1 1 (x.map b8) rfl (by rw [List.length_map, HX.out]) (fun j u hu => by rw [Addr.add_lit, Nat.zero_add]; exact (hnew.cell j).trans hu) (b8s_one x) (by unfold maxLen; omega) (by omega) (by have := K6.out; simp; omega) ?_
  intro v' w3 hown3 hg3 _
  obtain ⟨A3, c3, rfl, _⟩ := ownN_form hown3
  have hb3 : Below (B + 2) W0 w3 := ((Below.refl (B + 2) W0).alloc (by have := K6.out; omega) _).grown hg3 (by have := K6.out; simp; omega) (ownN_block K4.out)
  have c3' : w3.cell? ⟨B + 1, 0, none⟩ = some (.slice A k c) := (K2.out.below hb3 (by omega)).cell 0
  have f3' := (K2.out.below hb3 (by omega)).frozen 0
  have L3 := Lib.hid (K3.out.below hb3 (by omega))
  have L2 := Lib.hid (K2.out.below hb3 (by omega))
  have LO := Lib.hid hown3
  have LB := Lib.hid (K5.out.trans (hb3.mono (by omega)))
  have LS : Hid (B + 2 ≤ w3.heap.size) := Lib.hid (by have := hb3.size; have := K6.out; omega)
  have n3 : w3.cell? ⟨B, 0, none⟩ = some (.int .i64 n) := L3.out.cell 0
  have wk : IntKind.i64.wrap ((k : Int) + 1) = (k : Int) + 1 := IntWalk.i64_in _ (by omega)
  clear hnew hown3 hg3 hb3
  go_wp2
  go_ret
  have ho := only_setCell w3 (B + 1) 0 (.slice A3 (k + 1) c3)
  exact ⟨rfl, L3.out.only ho (by omega), ⟨A3, c3, L2.out.set 0 _, by rw [List.map_append]; exact ownN_only LO.out ho (by omega)⟩, ho.below LB.out (by omega), by rw [ho.size]; exact LS.out⟩
end Go.Proofs.Ytchfhndpbfohhaa
