/- What chacha's Blocks, and First of them, answer. No conditions. -/
import Derived.Test.YtchfhndpbfohhaaFirst
import Derived.Test.YtchfhndpbfohhaaArrEq
namespace Go.Proofs.Ytchfhndpbfohhaa
set_option linter.unusedVariables false
set_option linter.unusedSimpArgs false
open Go.RowKit Bv
attribute [local go_sem] add32 sub32 xor32 or32 n32_beq
section
variable {w0 w w' : World} {B k : Nat} {n : Int} {bs : List (BitVec 8)}
theorem FS.step (h : FS w0 B n k bs w) (hb : Below w.heap.size w w') : FS w0 B n k bs w' := by
  have hs := h.size
  obtain ⟨A, c, hr, ho⟩ := h.row
  exact ⟨h.nb.below hb (by omega), ⟨A, c, hr.below hb (by omega), ownN_below ho hb⟩, h.below.trans (hb.mono (by omega)), by have := hb.size; omega⟩
end
/-- The first k blocks from a counter on. -/
def cbl (key nonce : List (BitVec 8)) (ctr : BitVec 32) : Nat → List (BitVec 8)
  | 0 => []
  | k + 1 => cbl key nonce ctr k ++ cblock key (ctr + BitVec.ofNat 32 k) nonce
theorem cblock_len (key nonce : List (BitVec 8)) (ctr : BitVec 32) : (cblock key ctr nonce).length = 64 := outb_len _ _ 16
theorem cbl_len (key nonce : List (BitVec 8)) (ctr : BitVec 32) : ∀ k, (cbl key nonce ctr k).length = k * 64
  | 0 => rfl
  | k + 1 => by rw [cbl, List.length_append, cbl_len key nonce ctr k, cblock_len]; omega
/-- What a sequence of blocks is. -/
structure SeqAt (key nonce : List (BitVec 8)) (ctr : BitVec 32) (g : Nat) (w : World) : Prop where
  k : Blk w g 49 (key.map b8)
  n : Blk w (g + 1) 50 (nonce.map b8)
  c : Blk w (g + 2) 43 [b32 ctr]
theorem SeqAt.step {key nonce : List (BitVec 8)} {ctr : BitVec 32} {g B : Nat} {w w' : World} (h : SeqAt key nonce ctr g w) (hb : Below B w w') (hB : g + 2 < B) : SeqAt key nonce ctr g w' :=
  ⟨h.k.below hb (by omega), h.n.below hb (by omega), h.c.below hb (by omega)⟩
theorem SeqAt.over {key nonce : List (BitVec 8)} {ctr : BitVec 32} {g B : Nat} {w0 w w' : World} (h : SeqAt key nonce ctr g w) (b1 : Below B w0 w) (b2 : Below B w0 w') (hB : g + 2 < B) : SeqAt key nonce ctr g w' :=
  ⟨((b2.block _ (by omega)).trans (b1.block _ (by omega)).symm).trans h.k, ((b2.block _ (by omega)).trans (b1.block _ (by omega)).symm).trans h.n, ((b2.block _ (by omega)).trans (b1.block _ (by omega)).symm).trans h.c⟩
/-- The sequence as a value. -/
def seqV (g : Nat) : Value := .func (.func 50) #[] #[.pointer (some ⟨g + 2, 0, none⟩), .pointer (some ⟨g, 0, none⟩), .pointer (some ⟨g + 1, 0, none⟩)]
theorem blocks_any (key nonce : List (BitVec 8)) (ctr : BitVec 32) (w : World) :
    Calls Try.prog 38 #[.agg (key.map b8).toArray, .agg (nonce.map b8).toArray, b32 ctr] w fun e w' => e = .returned (seqV w.heap.size) ∧ SeqAt key nonce ctr w.heap.size w' ∧ Below w.heap.size w w' ∧ w'.heap.size = w.heap.size + 3 := by
  go_enter Try.func38, Try.ntmps38
  go_wp2
  go_ret
  exact ⟨by simp [seqV], ⟨((blk_new w _ _ _ rfl).alloc _).alloc _, (blk_new (w.alloc _) _ _ _ (by simp)).alloc _, blk_new ((w.alloc _).alloc _) _ _ _ (by simp)⟩, (((Below.refl _ _).alloc (Nat.le_refl _) _).alloc (by simp) _).alloc (by simp; omega) _, by simp⟩

theorem ofi32 (x : BitVec 32) : BitVec.ofInt 32 (n32 x) = x := by
  unfold n32; rw [BitVec.ofInt_natCast]; exact BitVec.ofNat_toNat .. |>.trans (by simp)
theorem ctr_sub (c : BitVec 32) (k : Nat) (hk : k < 4294967296) : (BitVec.ofInt 32 (n32 (c + BitVec.ofNat 32 k)) - c).toNat = k := by
  rw [ofi32, BitVec.add_comm, BitVec.add_sub_cancel, BitVec.toNat_ofNat]
  exact Nat.mod_eq_of_lt hk
theorem ctr_inc (c : BitVec 32) (k : Nat) : (n32 (c + BitVec.ofNat 32 k) + 1) % 4294967296 = n32 (c + BitVec.ofNat 32 (k + 1)) := by
  unfold n32
  simp only [BitVec.toNat_add, BitVec.toNat_ofNat]
  omega
set_option maxHeartbeats 2000000 in
theorem blocks1_first (key nonce : List (BitVec 8)) (ctr : BitVec 32) (w0 w : World) (B g N : Nat) (hk : key.length = 32) (hn : nonce.length = 12) (hB : w0.heap.size = B) (hg : g + 2 < B) (hN0 : 0 < N) (hN : N ≤ 1000)
    (hs : SeqAt key nonce ctr g w) (h : FS w0 B N 0 [] w) :
    Calls Try.prog 50 #[.func (.func 51) #[] #[.pointer (some ⟨B + 1, 0, none⟩), .pointer (some ⟨B, 0, none⟩)], .pointer (some ⟨g + 2, 0, none⟩), .pointer (some ⟨g, 0, none⟩), .pointer (some ⟨g + 1, 0, none⟩)] w
      fun e w' => (∃ v, e = .returned v) ∧ FS w0 B N N (cbl key nonce ctr N) w' := by
  have HK := Lib.hid hk; have HN := Lib.hid hn; have HB := Lib.hid hB; have HS := Lib.hid hs; have H := Lib.hid h
  have cc : w.cell? ⟨g + 2, 0, none⟩ = some (b32 ctr) := hs.c.cell 0
  clear hk hn hB hs h
  go_enter Try.func50, Try.ntmps50
  go_wp2
  go_loopw [5] (fun i wr => ∃ k : Nat, k < N ∧ i = b32 (ctr + BitVec.ofNat 32 k) ∧ FS w0 B N k (cbl key nonce ctr k) wr ∧ SeqAt key nonce ctr g wr) (fun i wr => match i with | .int _ x => N - (BitVec.ofInt 32 x - ctr).toNat | _ => 0)
  case atStart => exact ⟨0, hN0, by simp, H.out, HS.out⟩
  case round =>
    obtain ⟨k, hkN, rfl, hfs, hsq⟩ := hrel
    have F0 := Lib.hid hfs; have S0 := Lib.hid hsq
    have hsz := hfs.size
    clear hfs hsq H HS
    go_upto_region 1 with (fail)
    apply wp_region_lit
    go_step
    go_step
    go_step
    refine wpList_load_blk rfl rfl rfl S0.out.k Try.underlying49 (by rw [List.length_map, HK.out]; kernel_rfl) ?_
    go_step
    go_step
    go_step
    refine wpList_load_blk rfl rfl rfl S0.out.n Try.underlying50 (by rw [List.length_map, HN.out]; kernel_rfl) ?_
    go_wp2_with fail
    refine (block_any key nonce (ctr + BitVec.ofNat 32 k) _ HK.out HN.out).mono ?_
    rintro e W1 ⟨rfl, hb1⟩
    have F1 := Lib.hid (F0.out.step hb1)
    have S1 := Lib.hid (S0.out.step hb1 (by omega))
    have hsz1 := hb1.size
    clear hb1
    go_wp2_with fail
    refine (first1_any w0 B k N (cbl key nonce ctr k) (cblock key (ctr + BitVec.ofNat 32 k) nonce) _ (cblock_len _ _ _) F1.out HB.out (by omega)).mono ?_
    rintro e W2 ⟨rfl, hf2⟩
    have F2 := Lib.hid hf2
    have S2 := Lib.hid (S1.out.over F1.out.below hf2.below hg)
    clear hf2
    by_cases hlast : k + 1 < N
    · have hd : decide ((k : Int) + 1 < N) = true := decide_eq_true (by omega)
      rw [hd]
      go_wp2
      go_roundw
      case rel => exact ⟨k + 1, by omega, congrArg (Value.int .u32) (ctr_inc ctr k), F2.out, S2.out⟩
      case measure =>
        rw [ctr_inc]
        show N - (BitVec.ofInt 32 (n32 (ctr + BitVec.ofNat 32 (k + 1))) - ctr).toNat < N - (BitVec.ofInt 32 (n32 (ctr + BitVec.ofNat 32 k)) - ctr).toNat
        rw [ctr_sub _ _ (by omega), ctr_sub _ _ (by omega)]
        omega
    · obtain rfl : N = k + 1 := by omega
      have hd : decide ((k : Int) + 1 < ((k + 1 : Nat) : Int)) = false := decide_eq_false (by omega)
      rw [hd]
      go_wp2
      go_end0
      exact ⟨⟨_, rfl⟩, F2.out⟩
set_option maxHeartbeats 2000000 in
/-- The first so many blocks, in a row of their own. -/
theorem first_any (key nonce : List (BitVec 8)) (ctr : BitVec 32) (g N : Nat) (w : World) (hk : key.length = 32) (hn : nonce.length = 12) (hg : g + 2 < w.heap.size) (hN0 : 0 < N) (hN : N ≤ 1000) (hs : SeqAt key nonce ctr g w) :
    Calls Try.prog 39 #[seqV g, .int .i64 N] w fun e w' => ∃ A c, e = .returned (.slice A N c) ∧ w'.ownsRow w.heap.size 51 64 (.slice A N c) N ((cbl key nonce ctr N).map b8) ∧ Below w.heap.size w w' := by
  have HK := Lib.hid hk; have HN := Lib.hid hn; have HS := Lib.hid hs
  clear hk hn hs
  unfold seqV
  go_enter Try.func39, Try.ntmps39
  have e1 : ¬ ((N : Int) < 1) := by omega
  have hnil := fun w => run_eql_nilFunc (P := Try.prog) w 54 (.func 50) #[] #[.pointer (some ⟨g + 2, 0, none⟩), .pointer (some ⟨g, 0, none⟩), .pointer (some ⟨g + 1, 0, none⟩)] _ _ _ Try.underlying54
  go_upto_region 4 with (fail)
  refine name_world (fun W => FS w w.heap.size N 0 [] W ∧ SeqAt key nonce ctr g W) ?hp ?_
  case hp =>
    have hb := ((Below.refl w.heap.size w).alloc (Nat.le_refl _) (.cells #[.int .i64 N] 3 (0, 0))).alloc (by simp) (.cells #[.slice none 0 0] 56 (0, 0))
    exact ⟨⟨(blk_new w _ _ _ rfl).alloc _, ⟨none, 0, blk_new (w.alloc _) _ _ _ (by simp), World.ownsRow_nil _ _ _ _⟩, hb, by simp⟩, HS.out.step hb hg⟩
  rintro W0 ⟨h1, h2⟩
  have F0 := Lib.hid h1; have S0 := Lib.hid h2
  clear h1 h2
  go_wp2_with fail
  refine (blocks1_first key nonce ctr w W0 w.heap.size g N HK.out HN.out rfl hg hN0 hN S0.out F0.out).mono ?_
  rintro e W1 ⟨⟨v, rfl⟩, hf⟩
  obtain ⟨A, c, hr, ho⟩ := hf.row
  have c1 : W1.cell? ⟨w.heap.size + 1, 0, none⟩ = some (.slice A N c) := hr.cell 0
  have HO := Lib.hid ho; have HB := Lib.hid hf.below
  clear hr ho hf
  go_wp2
  go_ret
  exact ⟨A, c, rfl, ownN_le HO.out (by omega), HB.out⟩
end Go.Proofs.Ytchfhndpbfohhaa
