/- What more helpers of the statements answer: copies with room behind, whether they are kept, texts held against each other. Condition: lengths below 2^46. -/
import Derived.Test.YtchfhndpbfohhaaHelp
import Derived.Laws.StructEq
namespace Go.Proofs.Ytchfhndpbfohhaa
set_option linter.unusedVariables false
set_option linter.unusedSimpArgs false
open Go.RowKit Bv
attribute [local go_sem] n8_beq n8_bne xor8 xorl8 or8 cv8_64

/-- The text of some bytes. -/
def sof (xs : List (BitVec 8)) : ByteArray := ⟨(xs.map fun b => (⟨b⟩ : UInt8)).toArray⟩
theorem sof_inj {xs ys : List (BitVec 8)} (h : sof xs = sof ys) : xs = ys := by
  have h2 : (xs.map fun b => (⟨b⟩ : UInt8)) = (ys.map fun b => (⟨b⟩ : UInt8)) := by
    have := congrArg (fun s : ByteArray => s.data.toList) h
    simpa [sof] using this
  have h3 := congrArg (List.map UInt8.toBitVec) h2
  rw [List.map_map, List.map_map, show (UInt8.toBitVec ∘ fun b : BitVec 8 => (⟨b⟩ : UInt8)) = id from rfl, List.map_id, List.map_id] at h3
  exact h3
theorem conv_rd {P : Program} (w : World) (src e dst : TypeId) (hs : P.underlying src = some (.slice e)) (he : P.underlying e = some (.int .u8)) (hd : P.underlying dst = some .string)
    {A : Option Addr} {n c : Nat} {xs : List (BitVec 8)} (h : Rd b8 w A n c xs) : (convert src dst (.slice A n c)).run P w = .ok (.string (sof xs)) w := by
  cases A with
  | none =>
    have := h.isn rfl
    have hn : n = 0 := by have := h.le; omega
    subst hn
    have : xs = [] := List.eq_nil_of_length_eq_zero h.len
    subst this
    exact run_convert_bytes_nil w src e hs he 0 c dst hd
  | some ad =>
    have hl : (loadCells ad n).run P w = .ok ((xs.map n8).map (Value.int .u8)).toArray w := by
      have := run_loadCells_list (P := P) w ad (xs.map b8) (fun j v hj => by
        have hjl : j < xs.length := by have := (List.getElem?_eq_some_iff.1 hj).1; simpa using this
        rw [h.cells ad rfl j (by rw [← h.len]; exact hjl)]
        rw [List.getElem?_map, List.getElem?_eq_getElem hjl, ← ath_get xs j hjl] at hj
        simpa using hj)
      simpa [h.len, List.map_map, Function.comp_def] using this
    rw [run_convert_bytes_string w src dst e _ n c hs he hd, run_bytesToString w _ n c _ hl, foldl_push_bytes]
    have hf : ((fun n => UInt8.ofNat n.toNat) ∘ n8) = fun b : BitVec 8 => (⟨b⟩ : UInt8) := by
      funext b; simp [n8]
    simp only [sof, ByteArray.empty, ByteArray.emptyWithCapacity, List.map_map, hf]
    simp
    rfl

/-- A copy with three more bytes behind it. -/
def Owned (w : World) (n : Nat) (xs : List (BitVec 8)) (f : BitVec 8) (e : Ending) (w' : World) : Prop :=
  ∃ g, e = .returned (.slice (some ⟨g, 0, none⟩) n (n + 3)) ∧ w.heap.size ≤ g ∧ Blk w' g 5 ((xs ++ [f, f, f]).map b8) ∧ Below w.heap.size w w'

theorem own_push {w : World} {base g k cap : Nat} {e : TypeId} {zs : List Value} (h : w.ownsRow base e 1 (.slice (some ⟨g, 0, none⟩) k cap) k zs) (hk : k < cap) (v : Value) :
    (∃ u, w.cell? ⟨g, k, none⟩ = some u) ∧ w.frozen? ⟨g, k, none⟩ = false ∧ (w.setCell ⟨g, k, none⟩ v).ownsRow base e 1 (.slice (some ⟨g, 0, none⟩) (k + 1) cap) (k + 1) (zs ++ [v]) := by
  obtain ⟨hl, h | ⟨g', cap', cur, hv, hg, hb, hn, hm, hs, ht⟩⟩ := h
  · exact absurd h.1 (by intro h; cases h)
  · cases hv
    have hsz : k < cur.size := by omega
    refine ⟨⟨cur[k], by simp [World.cell?, hb, hsz]⟩, by simp [World.frozen?, hb], ?_, .inr ⟨g, cap, cur.setIfInBounds k v, rfl, hg, ?_, by omega, hm, by simp [hs], ?_⟩⟩
    · simp [hl]
    · simp only [World.setCell, Array.getElem?_modify, if_pos, hb, Option.map_some, Option.isSome_none, Bool.false_eq_true, if_false]
    · have hk1 : k < cur.toList.length := by simpa using hsz
      have hl' : zs.length = k := by omega
      rw [Nat.mul_one] at ht ⊢
      rw [Array.toList_setIfInBounds, List.take_set, List.take_succ_eq_append_getElem hk1, ht, List.set_append_right _ _ (by omega), hl', Nat.sub_self]
      rfl
theorem own_full {w : World} {base g cap : Nat} {e : TypeId} {zs : List Value} (h : w.ownsRow base e 1 (.slice (some ⟨g, 0, none⟩) cap cap) cap zs) : base ≤ g ∧ Blk w g e zs := by
  obtain ⟨hl, h | ⟨g', cap', cur, hv, hg, hb, hn, hm, hs, ht⟩⟩ := h
  · exact absurd h.1 (by intro h; cases h)
  · cases hv
    refine ⟨hg, ?_⟩
    rw [Nat.mul_one, List.take_of_length_le (by simp; omega)] at ht
    unfold Blk
    rw [hb, ← ht]

theorem ownc_any (A : Option Addr) (n c : Nat) (xs : List (BitVec 8)) (f : BitVec 8) (w : World) (h : Rd b8 w A n c xs) (hn : n ≤ 70368744177664) :
    Calls Try.prog 25 #[.slice A n c, b8 f] w (Owned w n xs f) := by
  obtain ⟨i0, hi, hz0, hz1, hz2⟩ := info_parts info8
  have H := Lib.hid h
  have hlen := Lib.hid h.len
  clear h
  go_enter Try.func25, Try.ntmps25
  go_wp2_with (first | (at_make; refine wpList_make_own _ rfl _ _ 32 rfl w.heap.size 5 i0 (.int .u8 0) 1 Try.underlying32 hi hz0 hz1 .i64 .i64 _ (n + 3) rfl rfl (by omega) (by rw [hz2]; omega) (by unfold maxLen; omega) (Nat.le_refl _) ?_; intro w0 hown0 hg0) | (at_builtin; refine wpList_append_fits_rd b8_one rfl _ _ 32 rfl w.heap.size 5 i0 Try.underlying32 hi hz1 w.heap.size 0 (n + 3) [] rfl hown0 A n c xs rfl (H.out.below (grown_below hg0 (by intro k hk; cases hk) (Nat.le_refl _)) (Nat.le_refl _)) (by omega) ?_; intro w1 hown1 hg1))
  simp only [Nat.zero_add, List.nil_append] at hown1
  have hB1 : Below w.heap.size w w1 := (grown_below hg0 (by intro k hk; cases hk) (Nat.le_refl _)).grown hg1 hg0.size (by intro k hk; cases hk; exact Nat.le_refl _)
  clear hown0 hg0 hg1
  go_loopw [7] (fun i wr => ∃ k : Nat, n ≤ k ∧ k ≤ n + 3 ∧ i = .int .i64 k ∧ wr.ownsRow w.heap.size 5 1 (.slice (some ⟨w.heap.size, 0, none⟩) k (n + 3)) k ((xs ++ List.replicate (k - n) f).map b8) ∧ Below w.heap.size w wr) (fun i _ => n + 3 - (intOf i).toNat)
  case atStart => exact ⟨n, Nat.le_refl _, by omega, rfl, by simpa using hown1, hB1⟩
  case round =>
    obtain ⟨k, hk1, hk2, rfl, hown, hb⟩ := hrel
    by_cases hk : k < n + 3
    · obtain ⟨⟨u, hu⟩, hf, hp⟩ := own_push hown hk (b8 f)
      have HP := Lib.hid hp
      clear hp hown
      go_wp2
      go_roundw
      case rel => exact ⟨k + 1, by omega, by omega, by go_num, by rw [show k + 1 - n = (k - n) + 1 by omega, List.replicate_succ', ← List.append_assoc, List.map_append]; exact HP.out, hb.setCell (p := ⟨w.heap.size, k, none⟩) (Nat.le_refl _) _⟩
      case measure => simp [intOf]; omega
    · obtain rfl : k = n + 3 := by omega
      have hfull := Lib.hid (own_full hown)
      clear hown
      go_wp2
      go_ret
      refine ⟨w.heap.size, rfl, Nat.le_refl _, ?_, hb⟩
      have := hfull.out.2
      rw [show n + 3 - n = 3 by omega] at this
      exact this

theorem bytes_eq (A B : Option Addr) (n m c d : Nat) (xs : List (BitVec 8)) (w : World) (hx : Rd b8 w A n c xs) (hy : Rd b8 w B m d xs) :
    Calls Try.prog 28 #[.slice A n c, .slice B m d] w fun e w' => e = .returned (.bool true) ∧ w = w' := by
  have k1 := conv_rd (P := Try.prog) w 32 5 9 Try.underlying32 Try.underlying5 Try.underlying9 hx
  have k2 := conv_rd (P := Try.prog) w 32 5 9 Try.underlying32 Try.underlying5 Try.underlying9 hy
  clear hx hy
  go_enter Try.func28, Try.ntmps28
  go_wp2
  go_ret
  exact ⟨rfl, rfl⟩

theorem plain_eq (A B : Option Addr) (n m c d : Nat) (xs : List (BitVec 8)) (w : World) (hx : Rd b8 w A n c xs) (hy : Rd b8 w B m d xs) :
    Calls Try.prog 43 #[.slice A n c, .slice B m d] w (Quiet w (.bool true)) := by
  obtain rfl : n = m := by have := hx.len; have := hy.len; omega
  have hm1 := hx.le
  have hm2 := hx.most
  have HX := Lib.hid hx
  have HY := Lib.hid hy
  have hone : Hid (∀ (x : BitVec 8) (w : World), Calls Try.prog 53 #[b8 x, b8 x] w fun e w' => e = .returned (.bool true) ∧ w = w') := by
    refine Lib.hid (fun x w => ?_)
    go_enter Try.func53, Try.ntmps53
    go_wp2
    go_ret
    exact ⟨by simp, rfl⟩
  clear hx hy
  have hsame : Hid (∀ w0, (∃ q, w.drewN q = w0) → Calls Try.prog 52 #[.slice A n c, .slice B n d, .func (.func 53) #[] #[]] w0 (Quiet w (.bool true))) := by
    refine Lib.hid ?_
    rintro w0 ⟨q0, rfl⟩
    go_enter Try.func52, Try.ntmps52
    go_wp2
    go_loopw [7] (fun i wr => ∃ k : Nat, k ≤ n ∧ i = .int .i64 k ∧ ∃ q, w.drewN q = wr) (fun i _ => n - (intOf i).toNat)
    case atStart => exact ⟨0, Nat.zero_le _, rfl, q0, rfl⟩
    case round =>
      obtain ⟨k, hk2, rfl, q, hq⟩ := hrel
      have HQ := Lib.hid hq
      by_cases hk : k < n
      · obtain ⟨ad, rfl, hc1⟩ := HX.out.addr (by omega)
        obtain ⟨ad2, rfl, hc2⟩ := HY.out.addr (by omega)
        have h1 : wr.cell? (ad.add k) = some (b8 (ath xs k)) := by rw [← hq]; exact hc1 k hk
        have h2 : wr.cell? (ad2.add k) = some (b8 (ath xs k)) := by rw [← hq]; exact hc2 k hk
        clear hc1 hc2 hq
        go_wp2
        go_quiet ((with_reducible refine quiet_eq (hone.out (ath xs k) _)))
        go_wp2
        go_roundw
        case rel => exact ⟨k + 1, by omega, by go_num, _, by rw [← HQ.out]; exact (World.drewN_drewN ..).symm⟩
        case measure => simp [intOf]; omega
      · obtain rfl : k = n := by omega
        clear hq
        go_wp2
        go_ret
        exact ⟨rfl, q, HQ.out⟩
  go_enter Try.func43, Try.ntmps43
  go_wp2_with fail
  refine (hsame.out _ ⟨0, rfl⟩).mono ?_
  rintro e w' ⟨rfl, q, rfl⟩
  go_wp2
  go_ret
  exact ⟨rfl, q, rfl⟩

theorem blk_rd {w : World} {g n cap : Nat} {e : TypeId} {xs ys : List (BitVec 8)} (h : Blk w g e ((xs ++ ys).map b8)) (hn : xs.length = n) (hc : n ≤ cap) (hm : cap ≤ 9223372036854775807) : Rd b8 w (some ⟨g, 0, none⟩) n cap xs := by
  refine ⟨hn, hc, hm, (fun h => by cases h), fun ad ea j hj => ?_⟩
  cases ea
  rw [Addr.add_lit, Nat.zero_add, h.cell, List.getElem?_map, List.getElem?_append_left (by omega), List.getElem?_eq_getElem (show j < xs.length by omega), ← ath_get xs j (by omega)]
  rfl
theorem kept_yes (A : Option Addr) (g n c : Nat) (xs : List (BitVec 8)) (f : BitVec 8) (w : World) (hb : Blk w g 5 ((xs ++ [f, f, f]).map b8)) (h : Rd b8 w A n c xs) (hn : n ≤ 70368744177664) :
    Calls Try.prog 31 #[.slice (some ⟨g, 0, none⟩) n (n + 3), .slice A n c, b8 f] w (Quiet w (.bool true)) := by
  have q1 := Lib.hid (plain_eq (some ⟨g, 0, none⟩) A n n (n + 3) c xs w (blk_rd hb h.len (by omega) (by omega)) h)
  have hlen := h.len
  have hcell : ∀ k, n ≤ k → k < n + 3 → w.cell? ⟨g, k, none⟩ = some (b8 f) := by
    intro k h1 h2
    rw [hb.cell, List.getElem?_map, List.getElem?_append_right (by omega)]
    obtain ⟨i, hi⟩ : ∃ i, i = k - xs.length := ⟨_, rfl⟩
    rw [← hi]
    have : i < 3 := by omega
    match i, this with
    | 0, _ => rfl
    | 1, _ => rfl
    | 2, _ => rfl
  have HC := Lib.hid hcell
  clear hcell h hb hlen
  go_enter Try.func31, Try.ntmps31
  go_wp2_with fail
  refine q1.out.mono ?_
  rintro e w' ⟨rfl, q0, rfl⟩
  go_wp2_with fail
  go_loopw [8] (fun i wr => ∃ k : Nat, n ≤ k ∧ k ≤ n + 3 ∧ i = .int .i64 k ∧ ∃ q, w.drewN q = wr) (fun i _ => n + 3 - (intOf i).toNat)
  case atStart => exact ⟨n, Nat.le_refl _, by omega, rfl, q0, rfl⟩
  case round =>
    obtain ⟨k, hk1, hk2, rfl, q, rfl⟩ := hrel
    by_cases hk : k < n + 3
    · have hck := HC.out k hk1 hk
      go_wp2
      go_roundw
      case rel => exact ⟨k + 1, by omega, by omega, by go_num, _, rfl⟩
      case measure => simp [intOf]; omega
    · obtain rfl : k = n + 3 := by omega
      go_wp2
      go_ret
      exact ⟨rfl, q, rfl⟩

/-- Spoil writes into its own row alone. -/
theorem spoil_any (g n c : Nat) (e : TypeId) (base : Nat) (zs : List (BitVec 8)) (w : World) (h : w.ownsRow base e 1 (.slice (some ⟨g, 0, none⟩) n c) n (zs.map b8)) (hn : n ≤ 70368744177664) :
    Calls Try.prog 30 #[.slice (some ⟨g, 0, none⟩) n c] w fun e w' => e = .returned (.tuple #[]) ∧ Below g w w' := by
  have hrd := own_rd h
  have hfz : ∀ k, k < n → w.frozen? ⟨g, k, none⟩ = false := fun k hk => by
    obtain ⟨g', e', _, _, hf⟩ := own_some h (by omega)
    cases e'; exact hf k
  have hlt : 0 < n → g < w.heap.size := fun h0 => by
    obtain ⟨g', e', _, hf, _⟩ := own_some h h0
    cases e'; exact hf
  have hm := hrd.le
  have hm2 := hrd.most
  have HR := Lib.hid hrd
  have HF := Lib.hid hfz
  clear h hrd hfz hlt
  go_enter Try.func30, Try.ntmps30
  go_wp2
  go_loopw [2] (fun i wr => ∃ k : Nat, k ≤ n ∧ i = .int .i64 k ∧ (∀ j, j < n → ∃ x : BitVec 8, wr.cell? ⟨g, j, none⟩ = some (b8 x)) ∧ (∀ j, j < n → wr.frozen? ⟨g, j, none⟩ = false) ∧ Below g w wr) (fun i _ => n - (intOf i).toNat)
  case atStart => exact ⟨0, Nat.zero_le _, rfl, fun j hj => ⟨ath zs j, by have := HR.out.cells _ rfl j hj; rwa [Addr.add_lit, Nat.zero_add] at this⟩, fun j hj => HF.out j hj, Below.refl _ _⟩
  case round =>
    obtain ⟨k, hk2, rfl, hc, hf, hb⟩ := hrel
    by_cases hk : k < n
    · obtain ⟨x, hx⟩ := hc k hk
      have hfk := hf k hk
      have HC := Lib.hid hc
      have HF2 := Lib.hid hf
      clear hc hf
      go_wp2
      go_roundw
      case rel =>
        refine ⟨k + 1, by omega, by go_num, fun j hj => ?_, fun j hj => ?_, hb.setCell (p := ⟨g, k, none⟩) (Nat.le_refl _) _⟩
        · by_cases hkj : k = j
          · subst hkj
            exact ⟨x ^^^ 85#8, World.cell?_setCell_same' _ _ _ (by rw [hx]; rfl)⟩
          · obtain ⟨y, hy⟩ := HC.out j hj
            exact ⟨y, by rw [← hy]; exact World.cell?_setCell_other _ _ _ _ (fun e => hkj (by cases e; rfl))⟩
        · rw [World.frozen?_setCell]; exact HF2.out j hj
      case measure => simp [intOf]; omega
    · obtain rfl : k = n := by omega
      clear hc hf
      go_wp2
      go_end0
      exact ⟨rfl, hb⟩
theorem spoil_nil (c : Nat) (A : Option Addr) (w : World) : Calls Try.prog 30 #[.slice A 0 c] w fun e w' => e = .returned (.tuple #[]) ∧ w = w' := by
  go_enter Try.func30, Try.ntmps30
  go_wp2
  go_loop [2] (fun i => i = .int .i64 0) (fun _ => 0)
  case atStart => rfl
  case round =>
    subst hrel
    go_wp2
    go_end0
    exact ⟨rfl, rfl⟩
/-- Spoil of a row of the call's own. -/
theorem spoil_own (A : Option Addr) (n c : Nat) (e : TypeId) (base : Nat) (zs : List (BitVec 8)) (w : World) (h : w.ownsRow base e 1 (.slice A n c) n (zs.map b8)) (hn : n ≤ 70368744177664) :
    Calls Try.prog 30 #[.slice A n c] w fun e w' => e = .returned (.tuple #[]) ∧ Below base w w' := by
  by_cases h0 : n = 0
  · subst h0
    exact (spoil_nil c A w).mono fun e w' ⟨he, hw⟩ => ⟨he, hw ▸ Below.refl _ _⟩
  · obtain ⟨g, rfl, hg, _⟩ := own_some h (by omega)
    exact (spoil_any g n c e base zs w h hn).mono fun e w' ⟨he, hw⟩ => ⟨he, hw.mono hg⟩
/-- A quiet contract, its world under a name of its own. -/
theorem loud {P : Program} {f : FuncId} {args : Array Value} {w : World} {v : Value} (h : Calls P f args w (Quiet w v)) : Calls P f args w fun e w' => e = .returned v ∧ ∀ B, Below B w w' :=
  h.mono fun e w' ⟨he, m, hm⟩ => ⟨he, fun B => hm ▸ below_drewN (Below.refl B w) m⟩
end Go.Proofs.Ytchfhndpbfohhaa
