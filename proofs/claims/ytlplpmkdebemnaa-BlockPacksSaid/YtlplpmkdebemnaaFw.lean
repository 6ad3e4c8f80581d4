/- A walk by facts: what the slots hold and what the call's own blocks hold, as two lists; one law for each kind of code. No conditions. -/
import Derived.Test.YtlplpmkdebemnaaMem
import Derived.Test.YtlplpmkdebemnaaInRound
import Derived.Test.YtlplpmkdebemnaaReg
import Derived.KernelRfl
import Derived.Shelf.Abstract
import Derived.Scope
import Derived.RangeFuncLeaves
namespace Go.Proofs.Ytlplpmkdebemnaa.Fw
set_option linter.unusedVariables false
set_option linter.unusedSimpArgs false
open Go.RowKit Bv
/-- A row of cells that is read: n elements of z cells each. -/
structure RdV (w : World) (A : Option Addr) (z n c : Nat) (cs : List Value) : Prop where
  len : cs.length = n * z
  le : n ≤ c
  most : c ≤ 9223372036854775807
  isn : A = none → c = 0
  cells : ∀ ad, A = some ad → ∀ j v, cs[j]? = some v → w.cell? (ad.add j) = some v
def adr (A : Option Addr) : Addr := A.getD ⟨0, 0, none⟩
/-- One world is later than another. -/
structure Same (w w' : World) : Prop where
  os : w'.os = w.os
  tape : w'.tape = w.tape
  output : w'.output = w.output
  size : w.heap.size ≤ w'.heap.size
theorem Same.refl (w : World) : Same w w := ⟨rfl, rfl, rfl, Nat.le_refl _⟩
theorem Same.trans {a b c : World} (h : Same a b) (k : Same b c) : Same a c := ⟨k.os.trans h.os, k.tape.trans h.tape, k.output.trans h.output, Nat.le_trans h.size k.size⟩
/-- What hangs on some blocks alone. -/
def Stab (B : Nat) (I : List Nat) (p : World → Prop) : Prop := ∀ w w', p w → Same w w' → (∀ i, i < B → w'.heap[i]? = w.heap[i]?) → (∀ i ∈ I, w'.heap[i]? = w.heap[i]?) → p w'
/-- A slice of bytes among others. -/
structure Pt where
  A : Option Addr
  n : Nat
  c : Nat
  xs : List (BitVec 8)
def Pt.sl (p : Pt) : Value := .slice p.A p.n p.c
/-- What is known of the memory: a block held whole; a slice held; a row that is read; a row of the call's own that nobody writes any more; a word on some blocks. -/
inductive HA where
  | blk (g : Nat) (e : TypeId) (cs : List Value)
  | row (v : Value) (e : TypeId) (z n : Nat) (zs : List Value)
  | rd (A : Option Addr) (z n c : Nat) (cs : List Value)
  | old (A : Option Addr) (z n c : Nat) (cs : List Value)
  | all (L : List Pt)
  | obj (g : Nat) (o : Obj)
  | inv (B : Nat) (O R : List Nat) (p : World → Prop)
/-- The block that a slice of some room stands in. -/
def rid (A : Option Addr) (c : Nat) : List Nat := if c = 0 then [] else (A.map (·.block)).toList
theorem mem_rid {A : Option Addr} {c r : Nat} : r ∈ rid A c ↔ 0 < c ∧ ∃ ad, A = some ad ∧ ad.block = r := by
  unfold rid
  split
  · simp; omega
  · cases A <;> simp <;> omega
def HA.ids : HA → List Nat
  | .blk g _ _ => [g]
  | .row v _ _ _ _ => v.ownBlock.toList
  | .obj g _ => [g]
  | _ => []
/-- The blocks that another one's rounds write. -/
def HA.os : HA → List Nat
  | .inv _ O _ _ => O
  | _ => []
def HA.bs : HA → Option Nat
  | .inv B _ _ _ => some B
  | _ => none
def HA.rids : HA → List Nat
  | .rd A _ _ c _ => rid A c
  | .old A _ _ c _ => rid A c
  | .all L => L.flatMap fun p => rid p.A p.c
  | .inv _ O R _ => O ++ R
  | _ => []
/-- What is not the caller's. -/
def HA.frs : HA → List Nat
  | .blk g _ _ => [g]
  | .row v _ _ _ _ => v.ownBlock.toList
  | .old A _ _ c _ => rid A c
  | .obj g _ => [g]
  | _ => []
theorem HA.ids_frs {x : HA} {k : Nat} (h : k ∈ x.ids) : k ∈ x.frs := by cases x <;> first | exact h | cases h
def HA.outB : HA → Bool
  | .blk _ _ _ => true
  | .row _ _ _ _ _ => true
  | .old _ _ _ _ _ => true
  | _ => false
theorem HA.rids_frs {x : HA} {k : Nat} (hb : x.outB = true) (h : k ∈ x.rids) : k ∈ x.frs := by cases x <;> first | (cases hb; done) | exact h | cases h
def HA.ok (w : World) : HA → Prop
  | .blk g e cs => w.heap[g]? = some (.cells cs.toArray e (0, 0))
  | .row v e z n zs => w.ownsRow 0 e z v n zs
  | .rd A z n c cs => RdV w A z n c cs ∧ ∀ ad, A = some ad → 0 < c → ad.block < w.heap.size
  | .old A z n c cs => RdV w A z n c cs ∧ ∀ ad, A = some ad → 0 < c → ad.block < w.heap.size
  | .all L => ∀ p ∈ L, RdV w p.A 1 p.n p.c (p.xs.map b8) ∧ ∀ ad, p.A = some ad → 0 < p.c → ad.block < w.heap.size
  | .obj g o => w.heap[g]? = some o
  | .inv B O R p => p w ∧ Stab B (O ++ R) p ∧ ∀ i ∈ O ++ R, i < w.heap.size
theorem cell_of_block {w w' : World} {a : Addr} (h : w'.heap[a.block]? = w.heap[a.block]?) : w'.cell? a = w.cell? a := by simp [World.cell?, h]
theorem RdV.keep {w w' : World} {A : Option Addr} {z n c : Nat} {cs : List Value} (h : RdV w A z n c cs) (hi : ∀ i ∈ rid A c, w'.heap[i]? = w.heap[i]?) : RdV w' A z n c cs := by
  refine ⟨h.len, h.le, h.most, h.isn, fun ad e j v hj => ?_⟩
  have hc : 0 < c := by
    have h1 := (List.getElem?_eq_some_iff.1 hj).1
    have h2 := h.len; have h3 := h.le
    rcases Nat.eq_zero_or_pos c with h0 | h0
    · exfalso
      have h4 : n = 0 := by omega
      rw [h4, Nat.zero_mul] at h2
      omega
    · exact h0
  have hb : (ad.add j).block = ad.block := by unfold Addr.add; split <;> rfl
  rw [cell_of_block (w := w) (by rw [hb]; exact hi _ (mem_rid.2 ⟨hc, ad, e, rfl⟩)), h.cells ad e j v hj]
theorem add_block (ad : Addr) (j : Nat) : (ad.add j).block = ad.block := by unfold Addr.add; split <;> rfl
theorem HA.ok_keep {x : HA} {w w' : World} (h : x.ok w) (hs : Same w w') (hi : ∀ i ∈ x.ids ++ x.rids, w'.heap[i]? = w.heap[i]?) (hb : ∀ B, x.bs = some B → ∀ i, i < B → w'.heap[i]? = w.heap[i]?) : x.ok w' := by
  cases x with
  | blk g e cs => exact (hi g (by simp [HA.ids])).trans h
  | row v e z n zs =>
    obtain ⟨hl, h | ⟨g, cap, cur, rfl, hg, hb, r⟩⟩ := h
    · exact ⟨hl, .inl h⟩
    · exact ⟨hl, .inr ⟨g, cap, cur, rfl, hg, (hi g (by simp [HA.ids, Value.ownBlock])).trans hb, r⟩⟩
  | rd A z n c cs => exact ⟨h.1.keep (fun i hI => hi i (by simpa [HA.rids, HA.ids] using hI)), fun ad e hc => Nat.lt_of_lt_of_le (h.2 ad e hc) hs.size⟩
  | old A z n c cs => exact ⟨h.1.keep (fun i hI => hi i (by simpa [HA.rids, HA.ids] using hI)), fun ad e hc => Nat.lt_of_lt_of_le (h.2 ad e hc) hs.size⟩
  | all L =>
    intro p hp
    have h1 := h p hp
    exact ⟨h1.1.keep (fun i hI => hi i (List.mem_append.2 (.inr (List.mem_flatMap.2 ⟨p, hp, hI⟩)))), fun ad e hc => Nat.lt_of_lt_of_le (h1.2 ad e hc) hs.size⟩
  | obj g o => exact (hi g (by simp [HA.ids])).trans h
  | inv B O R p => exact ⟨h.2.1 w w' h.1 hs (hb B rfl) (fun i hI => hi i (by simpa [HA.rids, HA.ids] using hI)), h.2.1, fun i hI => Nat.lt_of_lt_of_le (h.2.2 i hI) hs.size⟩
theorem HA.lt {x : HA} {w : World} (h : x.ok w) : ∀ i ∈ x.ids ++ x.rids, i < w.heap.size := by
  intro i hi
  cases x with
  | blk g e cs =>
    simp [HA.ids, HA.rids] at hi; subst hi
    exact (Array.getElem?_eq_some_iff.1 h).1
  | row v e z n zs =>
    simp [HA.ids, HA.rids] at hi
    exact (World.ownsRow.lt h i hi).2
  | rd A z n c cs =>
    obtain ⟨hc, ad, h1, h2⟩ := mem_rid.1 (by simpa [HA.ids, HA.rids] using hi)
    exact h2 ▸ h.2 ad h1 hc
  | old A z n c cs =>
    obtain ⟨hc, ad, h1, h2⟩ := mem_rid.1 (by simpa [HA.ids, HA.rids] using hi)
    exact h2 ▸ h.2 ad h1 hc
  | all L =>
    simp only [HA.ids, HA.rids, List.nil_append] at hi
    obtain ⟨p, hp, hpi⟩ := List.mem_flatMap.1 hi
    obtain ⟨hc, ad, h1, h2⟩ := mem_rid.1 hpi
    exact h2 ▸ (h p hp).2 ad h1 hc
  | obj g o =>
    simp [HA.ids, HA.rids] at hi; subst hi
    exact (Array.getElem?_eq_some_iff.1 h).1
  | inv B O R p => exact h.2.2 i (by simpa [HA.ids, HA.rids] using hi)
/-- Nothing has changed but for some blocks, and new ones. -/
structure Keep (C : List Nat) (w w' : World) : Prop where
  same : Same w w'
  block : ∀ k, k < w.heap.size → k ∉ C → w'.heap[k]? = w.heap[k]?
theorem Keep.refl (C : List Nat) (w : World) : Keep C w w := ⟨Same.refl w, fun _ _ _ => rfl⟩
theorem Keep.trans {C D : List Nat} {a b c : World} (h : Keep C a b) (k : Keep D b c) (hD : ∀ i ∈ D, i ∈ C ∨ a.heap.size ≤ i) : Keep C a c :=
  ⟨h.same.trans k.same, fun i hi hn => (k.block i (Nat.lt_of_lt_of_le hi h.same.size) (fun hd => (hD i hd).elim hn (fun h => by omega))).trans (h.block i hi hn)⟩
theorem Keep.below {w w' : World} (h : Keep [] w w') : Below w.heap.size w w' := ⟨h.same.os, h.same.tape, h.same.output, h.same.size, fun k hk => h.block k hk (by simp)⟩
theorem Keep.of_below {w w' : World} (h : Below w.heap.size w w') : Keep [] w w' := ⟨⟨h.os, h.tape, h.output, h.size⟩, fun k hk _ => h.block k hk⟩
theorem Keep.of_grown {w w' : World} {r : Option Nat} (h : w.grownBy w' r) : Keep r.toList w w' :=
  ⟨⟨h.os, h.tape, h.output, h.size⟩, fun k hk hn => h.block k hk (fun e => hn (by rw [← e]; simp))⟩
structure Cx where
  N : Nat
  C : List Nat
  w0 : World
  lo : Nat
  rs : Nat → Prop
  ds : List Deferred
structure St (X : Cx) (s : List (Nat × Value)) (h : List HA) (a : Act) (w : World) : Prop where
  sz : a.tmps.size = X.N
  df : a.defers = X.ds
  sl : ∀ k v, s.lookup k = some v → a.tmps[k]? = some v
  kp : Keep X.C X.w0 w
  ok : ∀ x ∈ h, x.ok w
  ll : X.w0.heap.size ≤ X.lo ∧ X.lo ≤ w.heap.size
  fr : ∀ x ∈ h, ∀ k ∈ x.frs, k ∈ X.C ∨ X.lo ≤ k
  nd : (h.flatMap HA.ids).Nodup
  dj : ∀ x ∈ h, ∀ y ∈ h, ∀ r ∈ x.rids, r ∉ y.ids
  iv : ∀ x ∈ h, ∀ o ∈ x.os, ∀ y ∈ h, y.bs = none → o ∉ y.rids
  ib : ∀ x ∈ h, ∀ B, x.bs = some B → X.C = [] ∧ B ≤ X.lo
  rk : (∀ c ∈ X.C, X.rs c) ∧ ∀ x ∈ h, ∀ r ∈ x.rids, X.rs r ∨ X.lo ≤ r
/-- A side condition, found by itself. -/
theorem sd {p : Prop} (h : p := by first | omega | (simp; done) | (simp; omega) | (simp [*]; done) | (simp [*]; omega) | (simp only [List.length_map]; omega)) : p := h
abbrev Jd := Act → World → Prop
def Tr (X : Cx) (s : List (Nat × Value)) (h : List HA) (J : Jd) : Prop := ∀ a w, St X s h a w → J a w
def ev (s : List (Nat × Value)) : Operand → Option Value
  | .tmp t => s.lookup t
  | .const v => some v
  | .global g => some (.pointer (some ⟨g, 0, none⟩))
  | .func f => some (.func (.func f) #[] #[])
def Ag (s : List (Nat × Value)) (e : Operand → Value) : Prop := ∀ x v, ev s x = some v → e x = v
def HOK (h : List HA) (w : World) : Prop := ∀ x ∈ h, x.ok w
section
variable {X : Cx} {s s' : List (Nat × Value)} {h : List HA} {a : Act} {w w' : World} {J J' : Jd}
theorem St.ag (st : St X s h a w) : Ag s a.eval := by
  intro x v hx
  cases x with
  | tmp t => have := st.sl t v hx; simp [Act.eval, Array.getD_eq_getD_getElem?, this]
  | const u => exact Option.some.inj hx
  | global g => exact Option.some.inj hx
  | func f => exact Option.some.inj hx
theorem St.put (st : St X s h a w) {d : Nat} (hd : d < X.N) (v : Value) : St X ((d, v) :: s) h (a.put (some d) v) w := by
  refine ⟨by simp [Act.put, st.sz], st.df, ?_, st.kp, st.ok, st.ll, st.fr, st.nd, st.dj, st.iv, st.ib, st.rk⟩
  intro k u hk
  rw [List.lookup_cons] at hk
  simp only [Act.put, Array.getElem?_setIfInBounds]
  by_cases e : k = d
  · subst e; simp at hk; subst hk; simp [st.sz, hd]
  · have : (k == d) = false := by simpa using e
    rw [this] at hk
    rw [if_neg (fun h => e h.symm)]
    exact st.sl k u hk
theorem St.slots (st : St X s h a w) (hs : ∀ k v, s'.lookup k = some v → s.lookup k = some v) : St X s' h a w := ⟨st.sz, st.df, fun k v hk => st.sl k v (hs k v hk), st.kp, st.ok, st.ll, st.fr, st.nd, st.dj, st.iv, st.ib, st.rk⟩
theorem perm_erase : ∀ (h : List HA) (i : Nat) (x : HA), h[i]? = some x → h.Perm (x :: h.eraseIdx i)
  | y :: h, 0, x, e => by simp at e; subst e; exact List.Perm.refl _
  | y :: h, i + 1, x, e => by
    rw [List.eraseIdx_cons_succ]
    exact ((perm_erase h i x (by simpa using e)).cons y).trans (List.Perm.swap ..)
/-- Some of what was held is given, and some is got for it. -/
theorem St.swap (st : St X s h a w) (out keep hs : List HA) (hp : h.Perm (out ++ keep)) {a' : Act} {s' : List (Nat × Value)} (hsz : a'.tmps.size = X.N) (hdf : a'.defers = X.ds) (hsl : ∀ k v, s'.lookup k = some v → a'.tmps[k]? = some v)
    (hk : Keep (out.flatMap HA.ids) w w') (hok : ∀ x ∈ hs, x.ok w') (hfr : ∀ x ∈ hs, ∀ k ∈ x.frs, k ∈ out.flatMap HA.ids ∨ w.heap.size ≤ k) (hnd : (hs.flatMap HA.ids).Nodup) (hrd : ∀ x ∈ hs, ∀ r ∈ x.rids, r ∈ x.frs ∧ ∀ y ∈ hs, r ∉ y.ids) (hos : ∀ x ∈ hs, x.os = [] ∧ x.bs = none := by intro x hx; rw [List.mem_singleton] at hx; subst hx; exact ⟨rfl, rfl⟩) : St X s' (hs ++ keep) a' w' := by
  have hmem : ∀ x, x ∈ h ↔ x ∈ out ∨ x ∈ keep := fun x => by rw [hp.mem_iff, List.mem_append]
  have hout : ∀ k ∈ out.flatMap HA.ids, k ∈ X.C ∨ X.lo ≤ k := by
    intro k hk
    obtain ⟨x, hx, hi⟩ := List.mem_flatMap.1 hk
    exact st.fr x ((hmem x).2 (.inl hx)) k (HA.ids_frs hi)
  have hnd2 : ((out ++ keep).flatMap HA.ids).Nodup := (hp.flatMap_right HA.ids).nodup_iff.1 st.nd
  rw [List.flatMap_append] at hnd2
  have hko : ∀ x ∈ keep, x.ok w' := by
    intro x hx
    refine HA.ok_keep (st.ok x ((hmem x).2 (.inr hx))) hk.same (fun i hi => hk.block i (HA.lt (st.ok x ((hmem x).2 (.inr hx))) i hi) (fun hin => ?_)) (fun B hB i hiB => ?_)
    case refine_2 =>
      obtain ⟨hC, hB2⟩ := st.ib x ((hmem x).2 (.inr hx)) B hB
      refine hk.block i (by have := st.ll.2; omega) (fun hin => ?_)
      rcases hout i hin with h1 | h1
      · rw [hC] at h1; cases h1
      · omega
    rcases List.mem_append.1 hi with hi | hi
    · exact (List.nodup_append.1 hnd2).2.2 i hin i (List.mem_flatMap.2 ⟨x, hx, hi⟩) rfl
    · obtain ⟨y, hy, hyi⟩ := List.mem_flatMap.1 hin
      exact st.dj x ((hmem x).2 (.inr hx)) y ((hmem y).2 (.inl hy)) i hi hyi
  refine ⟨hsz, hdf, hsl, st.kp.trans hk (fun i hi => (hout i hi).imp id (fun h => Nat.le_trans st.ll.1 h)), ?_, ⟨st.ll.1, Nat.le_trans st.ll.2 hk.same.size⟩, ?_, ?_, ?_, ?_, ?_, ⟨st.rk.1, ?_⟩⟩
  · intro x hx
    rcases List.mem_append.1 hx with hx | hx
    · exact hok x hx
    · exact hko x hx
  · intro x hx k hki
    rcases List.mem_append.1 hx with hx | hx
    · rcases hfr x hx k hki with h1 | h1
      · exact hout k h1
      · exact .inr (Nat.le_trans st.ll.2 h1)
    · exact st.fr x ((hmem x).2 (.inr hx)) k hki
  · rw [List.flatMap_append, List.nodup_append]
    refine ⟨hnd, (List.nodup_append.1 hnd2).2.1, ?_⟩
    rintro i hi j hj rfl
    obtain ⟨x, hx, hxi⟩ := List.mem_flatMap.1 hi
    obtain ⟨y, hy, hyi⟩ := List.mem_flatMap.1 hj
    rcases hfr x hx i (HA.ids_frs hxi) with h1 | h1
    · exact (List.nodup_append.1 hnd2).2.2 i h1 i hj rfl
    · have := HA.lt (st.ok y ((hmem y).2 (.inr hy))) i (List.mem_append.2 (.inl hyi))
      omega
  · intro x hx y hy r hr hry
    rcases List.mem_append.1 hx with hx | hx
    · obtain ⟨h1, h2⟩ := hrd x hx r hr
      rcases List.mem_append.1 hy with hy | hy
      · exact h2 y hy hry
      · rcases hfr x hx r h1 with h3 | h3
        · exact (List.nodup_append.1 hnd2).2.2 r h3 r (List.mem_flatMap.2 ⟨y, hy, hry⟩) rfl
        · have := HA.lt (st.ok y ((hmem y).2 (.inr hy))) r (List.mem_append.2 (.inl hry)); omega
    · have hxr := HA.lt (st.ok x ((hmem x).2 (.inr hx))) r (List.mem_append.2 (.inr hr))
      rcases List.mem_append.1 hy with hy | hy
      · rcases hfr y hy r (HA.ids_frs hry) with h1 | h1
        · obtain ⟨z, hz, hzi⟩ := List.mem_flatMap.1 h1
          exact st.dj x ((hmem x).2 (.inr hx)) z ((hmem z).2 (.inl hz)) r hr hzi
        · omega
      · exact st.dj x ((hmem x).2 (.inr hx)) y ((hmem y).2 (.inr hy)) r hr hry
  · intro x hx o ho y hy hyb hor
    rcases List.mem_append.1 hx with hx | hx
    · rw [(hos x hx).1] at ho; cases ho
    · have hox : o ∈ x.rids := by cases x <;> first | (cases ho; done) | exact List.mem_append.2 (.inl ho)
      rcases List.mem_append.1 hy with hy | hy
      · rcases hfr y hy o (hrd y hy o hor).1 with h1 | h1
        · obtain ⟨z, hz, hzi⟩ := List.mem_flatMap.1 h1
          exact st.dj x ((hmem x).2 (.inr hx)) z ((hmem z).2 (.inl hz)) o hox hzi
        · have := HA.lt (st.ok x ((hmem x).2 (.inr hx))) o (List.mem_append.2 (.inr hox)); omega
      · exact st.iv x ((hmem x).2 (.inr hx)) o ho y ((hmem y).2 (.inr hy)) hyb hor
  · intro x hx B hB
    rcases List.mem_append.1 hx with hx | hx
    · rw [(hos x hx).2] at hB; cases hB
    · exact st.ib x ((hmem x).2 (.inr hx)) B hB
  · intro x hx r hr
    rcases List.mem_append.1 hx with hx | hx
    · rcases hfr x hx r (hrd x hx r hr).1 with h1 | h1
      · exact (hout r h1).imp (st.rk.1 r) id
      · exact .inr (Nat.le_trans st.ll.2 h1)
    · exact st.rk.2 x ((hmem x).2 (.inr hx)) r hr
theorem St.drew (st : St X s h a w) {k : Nat} : St X s h a { w with drawn := k } :=
  ⟨st.sz, st.df, st.sl, ⟨⟨st.kp.same.os, st.kp.same.tape, st.kp.same.output, st.kp.same.size⟩, st.kp.block⟩, fun x hx => HA.ok_keep (st.ok x hx) ⟨rfl, rfl, rfl, Nat.le_refl _⟩ (fun _ _ => rfl) (fun _ _ _ _ => rfl), st.ll, st.fr, st.nd, st.dj, st.iv, st.ib, st.rk⟩
theorem St.perm {h' : List HA} (st : St X s h a w) (hp : h.Perm h') : St X s h' a w :=
  ⟨st.sz, st.df, st.sl, st.kp, fun x hx => st.ok x (hp.mem_iff.2 hx), st.ll, fun x hx => st.fr x (hp.mem_iff.2 hx), (hp.flatMap_right HA.ids).nodup_iff.1 st.nd, fun x hx y hy => st.dj x (hp.mem_iff.2 hx) y (hp.mem_iff.2 hy), fun x hx o ho y hy => st.iv x (hp.mem_iff.2 hx) o ho y (hp.mem_iff.2 hy), fun x hx => st.ib x (hp.mem_iff.2 hx), st.rk.1, fun x hx => st.rk.2 x (hp.mem_iff.2 hx)⟩
theorem St.drop {keep out : List HA} (st : St X s (out ++ keep) a w) : St X s keep a w :=
  ⟨st.sz, st.df, st.sl, st.kp, fun x hx => st.ok x (List.mem_append.2 (.inr hx)), st.ll, fun x hx => st.fr x (List.mem_append.2 (.inr hx)), by have := st.nd; rw [List.flatMap_append] at this; exact (List.nodup_append.1 this).2.1, fun x hx y hy => st.dj x (List.mem_append.2 (.inr hx)) y (List.mem_append.2 (.inr hy)), fun x hx o ho y hy => st.iv x (List.mem_append.2 (.inr hx)) o ho y (List.mem_append.2 (.inr hy)), fun x hx => st.ib x (List.mem_append.2 (.inr hx)), st.rk.1, fun x hx => st.rk.2 x (List.mem_append.2 (.inr hx))⟩
theorem T_mono (hj : ∀ a w, J' a w → J a w) (h' : Tr X s h J') : Tr X s h J := fun a w st => hj a w (h' a w st)
/-- The slots said anew. -/
def Sub (s : List (Nat × Value)) : List (Nat × Value) → Prop
  | [] => True
  | (k, v) :: r => s.lookup k = some v ∧ Sub s r
theorem sn {s : List (Nat × Value)} : Sub s [] := trivial
theorem sc {s r : List (Nat × Value)} {k : Nat} {v : Value} (h : s.lookup k = some v) (hr : Sub s r) : Sub s ((k, v) :: r) := ⟨h, hr⟩
theorem Sub.spec : ∀ {s' : List (Nat × Value)}, Sub s s' → ∀ k v, s'.lookup k = some v → s.lookup k = some v
  | [], _, _, _, e => by cases e
  | (j, u) :: r, hh, k, v, e => by
    rw [List.lookup_cons] at e
    by_cases hk : k = j
    · subst hk; simp at e; subst e; exact hh.1
    · have : (k == j) = false := by simpa using hk
      rw [this] at e
      exact hh.2.spec k v e
theorem T_re (s' : List (Nat × Value)) (hs : Sub s s') (h' : Tr X s' h J) : Tr X s h J := fun a w st => h' a w (st.slots hs.spec)
/-- What is held, said anew: some of it, in another order. -/
abbrev Pick (h : List HA) (is : List Nat) (h' : List HA) : Prop := is.Nodup ∧ is.map (h[·]?) = h'.map some
theorem pick_perm : ∀ (is : List Nat) (h h' : List HA), is.Nodup → is.map (h[·]?) = h'.map some → ∃ out, h.Perm (out ++ h')
  | [], h, h', _, e => by
    have : h' = [] := by cases h' with | nil => rfl | cons _ _ => simp at e
    subst this; exact ⟨h, by simp⟩
  | i :: is, h, h', hn, e => by
    cases h' with
    | nil => simp at e
    | cons x h' =>
      simp only [List.map_cons, List.cons.injEq] at e
      obtain ⟨e1, e2⟩ := e
      have hi : i < h.length := (List.getElem?_eq_some_iff.1 e1).1
      have hn' := List.nodup_cons.1 hn
      let f : Nat → Nat := fun j => if i < j then j - 1 else j
      have hmap : (is.map f).map ((h.eraseIdx i)[·]?) = h'.map some := by
        rw [← e2, List.map_map]
        apply List.map_congr_left
        intro j hj
        have hne : j ≠ i := fun e => hn'.1 (e ▸ hj)
        simp only [Function.comp, f, List.getElem?_eraseIdx]
        by_cases hij : i < j
        · rw [if_pos hij, if_neg (by omega), show j - 1 + 1 = j by omega]
        · rw [if_neg hij, if_pos (by omega)]
      have hnf : (is.map f).Nodup := by
        have gen : ∀ l : List Nat, l.Nodup → i ∉ l → (l.map f).Nodup := by
          intro l
          induction l with
          | nil => intro _ _; exact List.nodup_nil
          | cons a l ih =>
            intro h1 h2
            rw [List.map_cons, List.nodup_cons]
            refine ⟨?_, ih (List.nodup_cons.1 h1).2 (fun h => h2 (List.mem_cons_of_mem _ h))⟩
            intro hm
            obtain ⟨b, hb, e⟩ := List.mem_map.1 hm
            have h3 : a ≠ b := fun e => (List.nodup_cons.1 h1).1 (e ▸ hb)
            have h4 : a ≠ i := fun e => h2 (e ▸ List.mem_cons_self ..)
            have h5 : b ≠ i := fun e => h2 (e ▸ List.mem_cons_of_mem _ hb)
            simp only [f] at e
            by_cases c1 : i < a <;> by_cases c2 : i < b <;> simp only [c1, c2, if_true, if_false] at e <;> omega
        exact gen is hn'.2 hn'.1
      obtain ⟨out, hp⟩ := pick_perm (is.map f) (h.eraseIdx i) h' hnf hmap
      refine ⟨out, (perm_erase h i x e1).trans ?_⟩
      refine (hp.cons x).trans ?_
      exact (List.perm_middle).symm
theorem St.pick {h' : List HA} {is : List Nat} (st : St X s h a w) (hp : Pick h is h') : St X s h' a w := by
  obtain ⟨out, hq⟩ := pick_perm is h h' hp.1 hp.2
  exact (st.perm hq).drop
theorem T_he (is : List Nat) (h' : List HA) (hp : Pick h is h') (hh : Tr X s h' J) : Tr X s h J := fun a w st => hh a w (st.pick hp)
/-- One of the things held, said in other words. -/
theorem T_as (i : Nat) (x x' : HA) (hx : h[i]? = some x) (e : x = x') (hh : Tr X s (x' :: h.eraseIdx i) J) : Tr X s h J := fun a w st => hh a w (st.perm (e ▸ perm_erase h i x hx))
theorem T_slot (k : Nat) (v v' : Value) (hk : s.lookup k = some v) (e : v = v') (hh : Tr X ((k, v') :: s) h J) : Tr X s h J := by
  subst e
  refine fun a w st => hh a w (st.slots (fun j u hj => ?_))
  rw [List.lookup_cons] at hj
  by_cases hjk : j = k
  · subst hjk; simp at hj; subst hj; exact hk
  · have : (j == k) = false := by simpa using hjk
    rw [this] at hj; exact hj
/-- What the world tells of what is held may be used. -/
theorem T_know {p : Prop} (hp : ∀ w, HOK h w → p) (hh : p → Tr X s h J) : Tr X s h J := fun a w st => hh (hp w st.ok) a w st
end
/-- Where a code's ways lead. -/
structure Ks where
  nrm : Jd
  ret : Jd
  ex : List (Nat × Jd)
def toQ (k : Ks) : Exit → Act → World → Prop
  | .normal, a, w => k.nrm a w
  | .ret, a, w => k.ret a w
  | .exit i, a, w => ∃ J, k.ex.lookup i = some J ∧ J a w
  | _, _, _ => False
def Wp (F : Fence) (n : Nat) (P : Program) (k : Ks) (c : Code) : Jd := fun a w => c.wpIn F n P (toQ k) a w
/-- The wide fence, in a round or outside. -/
def Wid (F : Fence) : Prop := F = Fence.wide ∨ ∃ l, F = Fence.wide.inRound l
theorem wid_wide : Wid Fence.wide := .inl rfl
theorem wid_round (l : Nat) : Wid (Fence.wide.inRound l) := .inr ⟨l, rfl⟩
def QK (K : Jd) : Exit → Act → World → Prop := Exit.then K (fun _ _ _ => False)
theorem qk_lets (K : Jd) : ¬ LetsOut (QK K) := fun ⟨_, _, h⟩ => h
def Ls (P : Program) (ops : Array Oper) (K : Jd) (os : List Oper) : Jd := fun a w => wpList P ops (QK K) os a w
def An (P : Program) (ops : Array Oper) (K : Jd) (f : Nat) (listed : Array Bool) : Jd := fun a w => wpAny P .any ops (QK K) f listed a w
def Op (P : Program) (o : Oper) (K K0 : Jd) : Jd := fun a w => o.wp P a w K (QK K0)
section
variable {F : Fence} {n : Nat} {P : Program} {X : Cx} {s : List (Nat × Value)} {h : List HA} {nrm ret : Jd} {ex : List (Nat × Jd)} {x y : Code}
theorem T_seq (hh : Tr X s h (Wp F n P ⟨Wp F n P ⟨nrm, ret, ex⟩ y, ret, ex⟩ x)) : Tr X s h (Wp F n P ⟨nrm, ret, ex⟩ (.seq x y)) := fun a w st =>
  wpIn_seq (wpIn_mono (hh a w st) (fun e a w hq => by cases e <;> exact hq))
theorem T_skip (hh : Tr X s h nrm) : Tr X s h (Wp F n P ⟨nrm, ret, ex⟩ .skip) := fun a w st => wpIn_skip (hh a w st)
theorem T_label {l : Nat} (hh : Tr X s h nrm) : Tr X s h (Wp F n P ⟨nrm, ret, ex⟩ (.label l)) := fun a w st => wpIn_label (hh a w st)
theorem T_ret (hh : Tr X s h ret) : Tr X s h (Wp F n P ⟨nrm, ret, ex⟩ .ret) := fun a w st => wpIn_ret (hh a w st)
theorem T_exit {i : Nat} {J : Jd} (hi : ex.lookup i = some J) (hh : Tr X s h J) : Tr X s h (Wp F n P ⟨nrm, ret, ex⟩ (.exit i)) := fun a w st => wpIn_exit ⟨J, hi, hh a w st⟩
theorem T_block {i : Nat} (hh : Tr X s h (Wp F n P ⟨nrm, ret, (i, nrm) :: ex⟩ x)) : Tr X s h (Wp F n P ⟨nrm, ret, ex⟩ (.block i x)) := fun a w st =>
  wpIn_block (wpIn_mono (hh a w st) (fun e a w hq => by
    cases e with
    | normal => exact hq
    | ret => exact hq
    | exit j =>
      obtain ⟨J, hj, hJ⟩ := hq
      simp only [Exit.inBlock]
      rw [List.lookup_cons] at hj
      by_cases hij : j = i
      · subst hij; simp at hj; subst hj; simp [toQ]; exact hJ
      · have : (j == i) = false := by simpa using hij
        rw [this] at hj
        first
          | (rw [if_neg hij]; exact ⟨J, hj, hJ⟩)
          | (rw [if_neg (fun e => hij e.symm)]; exact ⟨J, hj, hJ⟩)
    | goto _ => exact hq.elim
    | panic _ => exact hq.elim
    | outgrown => exact hq.elim))
theorem T_scope {x : Code} (hF : F = Fence.wide) (hh : Tr X s h (Wp F n P ⟨nrm, ret, ex⟩ x)) : Tr X s h (Wp F n P ⟨nrm, ret, ex⟩ (.scope x)) := fun a w st => by
  subst hF
  refine wpIn_wide.2 (wp_scope_straight (wp_mono (wpIn_wide.1 (hh a w st)) (fun e a w hq => ?_)))
  cases e <;> first | exact hq | exact hq.elim
theorem T_cond_yes {c : Operand} {t : Bool} (hc : ev s c = some (.bool t)) (ht : t = true) (hh : Tr X s h (Wp F n P ⟨nrm, ret, ex⟩ x)) : Tr X s h (Wp F n P ⟨nrm, ret, ex⟩ (.cond c x y)) := fun a w st => wpIn_cond_true (st.ag c _ (ht ▸ hc)) (hh a w st)
theorem T_cond_no {c : Operand} {t : Bool} (hc : ev s c = some (.bool t)) (ht : t = false) (hh : Tr X s h (Wp F n P ⟨nrm, ret, ex⟩ y)) : Tr X s h (Wp F n P ⟨nrm, ret, ex⟩ (.cond c x y)) := fun a w st => wpIn_cond_false (st.ag c _ (ht ▸ hc)) (hh a w st)
theorem T_cond_t {c : Operand} (hc : ev s c = some (.bool true)) (hh : Tr X s h (Wp F n P ⟨nrm, ret, ex⟩ x)) : Tr X s h (Wp F n P ⟨nrm, ret, ex⟩ (.cond c x y)) := fun a w st => wpIn_cond_true (st.ag c _ hc) (hh a w st)
theorem T_cond_f {c : Operand} (hc : ev s c = some (.bool false)) (hh : Tr X s h (Wp F n P ⟨nrm, ret, ex⟩ y)) : Tr X s h (Wp F n P ⟨nrm, ret, ex⟩ (.cond c x y)) := fun a w st => wpIn_cond_false (st.ag c _ hc) (hh a w st)
theorem T_cond {c : Operand} (t : Bool) (hc : ev s c = some (.bool t)) (ht : t = true → Tr X s h (Wp F n P ⟨nrm, ret, ex⟩ x)) (hf : t = false → Tr X s h (Wp F n P ⟨nrm, ret, ex⟩ y)) : Tr X s h (Wp F n P ⟨nrm, ret, ex⟩ (.cond c x y)) := by
  cases t with
  | true => exact T_cond_t hc (ht rfl)
  | false => exact T_cond_f hc (hf rfl)
theorem T_reg {id : Nat} {os : List Oper} (hF : Wid F) (hd : noDefer os = true) (hh : Tr X s h (Ls P os.toArray nrm os)) : Tr X s h (Wp F n P ⟨nrm, ret, ex⟩ (.region id os.toArray false)) := fun a w st => by
  have h1 : ∀ e a w, QK nrm e a w → toQ ⟨nrm, ret, ex⟩ e a w := fun e a w hq => by cases e <;> first | exact hq | exact hq.elim
  rcases hF with rfl | ⟨l, rfl⟩
  · exact wpIn_wide.2 (wp_mono (wp_region_lit (hh a w st)) h1)
  · exact wpIn_mono (region_lit_in (l := l) hd (qk_lets _) (hh a w st)) h1
theorem T_regd {id : Nat} {os : List Oper} (hF : Wid F) (hm : P.follows .mixedOrders = true) (hd : noDefer os = true) (hh : Tr X s h (An P os.toArray nrm os.toArray.size (Array.replicate os.toArray.size false))) : Tr X s h (Wp F n P ⟨nrm, ret, ex⟩ (.region id os.toArray true)) := fun a w st => by
  have h1 : ∀ e a w, QK nrm e a w → toQ ⟨nrm, ret, ex⟩ e a w := fun e a w hq => by cases e <;> first | exact hq | exact hq.elim
  rcases hF with rfl | ⟨l, rfl⟩
  · exact wpIn_wide.2 (wp_mono (wp_region_any hm (hh a _ st.drew)) h1)
  · exact wpIn_mono (region_any_in (l := l) hm hd (qk_lets _) (hh a _ st.drew)) h1
theorem exists_least {S : Nat → Prop} : ∀ (m : Nat), S m → ∃ k, S k ∧ ∀ j, S j → k ≤ j := by
  intro m
  induction m using Nat.strongRecOn with
  | _ m ih =>
    intro hm
    by_cases hx : ∃ j, j < m ∧ S j
    · obtain ⟨j, hj, hs⟩ := hx; exact ih j hj hs
    · exact ⟨m, hm, fun j hj => Nat.le_of_not_lt fun h => hx ⟨j, h, hj⟩⟩
open Classical in
noncomputable def least (S : Nat → Prop) : Nat := if h : ∃ m, S m then Classical.choose (exists_least h.choose h.choose_spec) else 0
theorem least_spec {S : Nat → Prop} {m : Nat} (hm : S m) : S (least S) ∧ ∀ j, S j → least S ≤ j := by
  have h : ∃ m, S m := ⟨m, hm⟩
  unfold least
  rw [dif_pos h]
  exact Classical.choose_spec (exists_least h.choose h.choose_spec)
/-- A round has ended, and the number is lower. -/
def Again {T : Type} (X : Cx) (p : T → Prop) (σ : T → List (Nat × Value)) (η : T → List HA) (μ : T → Nat) (t : T) : Jd := fun a w => ∃ t', p t' ∧ μ t' < μ t ∧ St X (σ t') (η t') a w
def Meet {T : Type} (X : Cx) (p : T → Prop) (σ : T → List (Nat × Value)) (η : T → List HA) : Jd := fun a w => ∃ t, p t ∧ St X (σ t) (η t) a w
/-- A loop: what holds at each round's head, and a number that each round lowers. -/
theorem T_loop {T : Type} (p : T → Prop) (σ : T → List (Nat × Value)) (η : T → List HA) (μ : T → Nat) (t0 : T) (hp : p t0) (hs : Sub s (σ t0)) (is : List Nat) (hi : Pick h is (η t0))
    (round : ∀ t, p t → Tr X (σ t) (η t) (Wp F n P ⟨Again X p σ η μ t, ret, ex⟩ x)) : Tr X s h (Wp F n P ⟨nrm, ret, ex⟩ (.loop x)) := fun a w st => by
  let Sx : Act → World → Nat → Prop := fun a w m => ∃ t, p t ∧ μ t = m ∧ St X (σ t) (η t) a w
  refine wpIn_loop (fun a w => ∃ m, Sx a w m) (fun a w => least (Sx a w)) ⟨μ t0, t0, hp, rfl, (st.slots hs.spec).pick hi⟩ ?_
  rintro a w ⟨m, hm⟩
  obtain ⟨⟨t, ht, hmt, hst⟩, hle⟩ := least_spec hm
  refine wpIn_mono (round t ht a w hst) (fun e a' w' hq => ?_)
  cases e with
  | normal =>
    obtain ⟨t', h1, h2, h3⟩ := hq
    have h4 : Sx a' w' (μ t') := ⟨t', h1, rfl, h3⟩
    refine ⟨⟨_, h4⟩, ?_⟩
    have := (least_spec h4).2 _ h4
    omega
  | ret => exact hq
  | exit j => exact hq
  | goto _ => exact hq.elim
  | panic _ => exact hq.elim
  | outgrown => exact hq.elim
theorem T_again {T : Type} {p : T → Prop} {σ : T → List (Nat × Value)} {η : T → List HA} {μ : T → Nat} {t : T} (t' : T) (hp : p t') (hm : μ t' < μ t) (hs : Sub s (σ t')) (is : List Nat) (hi : Pick h is (η t')) :
    Tr X s h (Again X p σ η μ t) := fun a w st => ⟨t', hp, hm, (st.slots hs.spec).pick hi⟩
/-- Ways that meet again. -/
theorem T_join {T : Type} (p : T → Prop) (σ : T → List (Nat × Value)) (η : T → List HA) (hx : Tr X s h (Wp F n P ⟨Meet X p σ η, ret, ex⟩ x))
    (hy : ∀ t, p t → Tr X (σ t) (η t) (Wp F n P ⟨nrm, ret, ex⟩ y)) : Tr X s h (Wp F n P ⟨nrm, ret, ex⟩ (.seq x y)) :=
  T_seq fun a w st => wpIn_mono (hx a w st) (fun e a' w' hq => by
    cases e with
    | normal => obtain ⟨t, h1, h2⟩ := hq; exact hy t h1 a' w' h2
    | ret => exact hq
    | exit j => exact hq
    | goto _ => exact hq.elim
    | panic _ => exact hq.elim
    | outgrown => exact hq.elim)
theorem T_meet {T : Type} {p : T → Prop} {σ : T → List (Nat × Value)} {η : T → List HA} (t : T) (hp : p t) (hs : Sub s (σ t)) (is : List Nat) (hi : Pick h is (η t)) :
    Tr X s h (Meet X p σ η) := fun a w st => ⟨t, hp, (st.slots hs.spec).pick hi⟩
end
/-- What a call owes. -/
structure Post (C : List Nat) (w w' : World) (hs : List HA) : Prop where
  kp : Keep C w w'
  ok : ∀ x ∈ hs, x.ok w'
  fr : ∀ x ∈ hs, ∀ k ∈ x.frs, k ∈ C ∨ w.heap.size ≤ k
  nd : (hs.flatMap HA.ids).Nodup
  rd : ∀ x ∈ hs, ∀ r ∈ x.rids, r ∈ x.frs ∧ ∀ y ∈ hs, r ∉ y.ids
  os : ∀ x ∈ hs, x.os = [] ∧ x.bs = none
def Ret {T : Type} (C : List Nat) (w : World) (q : T → Prop) (res : T → Value) (hs : T → List HA) : Ending → World → Prop := fun e w' => ∃ t, q t ∧ e = .returned (res t) ∧ Post C w w' (hs t)
theorem Post.none {w w' : World} (h : Below w.heap.size w w') : Post [] w w' [] := ⟨Keep.of_below h, by simp, by simp, by simp, by simp, by simp⟩
theorem ret_of_below {P : Program} {f : FuncId} {args : Array Value} {w : World} {v : Value} (h : Calls P f args w fun e w' => e = .returned v ∧ Below w.heap.size w w') : Calls P f args w (Ret (T := Unit) [] w (fun _ => True) (fun _ => v) (fun _ => [])) :=
  h.mono fun e w' ⟨he, hb⟩ => ⟨(), trivial, he, Post.none hb⟩
theorem ret_of_same {P : Program} {f : FuncId} {args : Array Value} {w : World} {v : Value} (h : Calls P f args w fun e w' => e = .returned v ∧ w = w') : Calls P f args w (Ret (T := Unit) [] w (fun _ => True) (fun _ => v) (fun _ => [])) :=
  h.mono fun e w' ⟨he, hb⟩ => ⟨(), trivial, he, hb ▸ Post.none (Below.refl _ _)⟩
theorem below_of_ret {P : Program} {f : FuncId} {args : Array Value} {w : World} {v : Value} {q : Unit → Prop} {hs : Unit → List HA} (h : Calls P f args w (Ret [] w q (fun _ => v) hs)) : Calls P f args w fun e w' => e = .returned v ∧ Below w.heap.size w w' :=
  h.mono fun e w' ⟨_, _, he, hp⟩ => ⟨he, hp.kp.below⟩
/-- Where a function begins. -/
def enumS : Nat → List Value → List (Nat × Value)
  | _, [] => []
  | i, v :: l => (i, v) :: enumS (i + 1) l
theorem enumS_spec : ∀ (l : List Value) (i k : Nat) (v : Value), (enumS i l).lookup k = some v → i ≤ k ∧ l[k - i]? = some v
  | [], _, _, _, e => by cases e
  | u :: l, i, k, v, e => by
    rw [enumS, List.lookup_cons] at e
    by_cases hk : k = i
    · subst hk; simp at e; subst e; exact ⟨Nat.le_refl _, by simp⟩
    · have : (k == i) = false := by simpa using hk
      rw [this] at e
      obtain ⟨h1, h2⟩ := enumS_spec l (i + 1) k v e
      refine ⟨by omega, ?_⟩
      rw [show k - i = (k - (i + 1)) + 1 by omega, List.getElem?_cons_succ]
      exact h2
def Own (C : List Nat) (h : List HA) (w : World) : Prop := (∀ x ∈ h, x.os = [] ∧ x.bs = none) ∧ (∀ x ∈ h, x.ok w) ∧ (∀ x ∈ h, ∀ k ∈ x.frs, k ∈ C) ∧ (h.flatMap HA.ids).Nodup ∧ ∀ x ∈ h, ∀ y ∈ h, ∀ r ∈ x.rids, r ∉ y.ids
def RetJ (P : Program) (fn : Func) (R : Ending → World → Prop) : Jd := fun a w => a.defers = [] ∧ ∃ v, (results fn a.tmps).run P w = .ok v w ∧ R (.returned v) w
section
variable {P : Program} {f : FuncId} {fn : Func} {c : Code} {R : Ending → World → Prop} {w : World}
theorem st_enter {N : Nat} (C : List Nat) (args : List Value) (h : List HA) (hN : args.length ≤ N) (hO : Own C h w) : St ⟨N, C, w, w.heap.size, fun _ => True, []⟩ (enumS 0 args) h { tmps := args.toArray ++ Array.replicate (N - args.toArray.size) undef, defers := [] } w := by
  refine ⟨by simp; omega, rfl, ?_, Keep.refl _ _, hO.2.1, ⟨Nat.le_refl _, Nat.le_refl _⟩, fun x hx k hk => .inl (hO.2.2.1 x hx k hk), hO.2.2.2.1, hO.2.2.2.2, fun x hx o ho => (by rw [(hO.1 x hx).1] at ho; cases ho), fun x hx B hB => (by rw [(hO.1 x hx).2] at hB; cases hB), fun _ _ => trivial, fun _ _ _ _ => .inl trivial⟩
  intro k v hk
  have h1 := (enumS_spec args 0 k v hk).2
  rw [Nat.sub_zero] at h1
  have h2 : k < args.length := (List.getElem?_eq_some_iff.1 h1).1
  rw [Array.getElem?_append_left (by simpa using h2)]
  simpa using h1
theorem enter (hf : P.funcs[f]? = some fn) (hb : fn.body = some c) (C : List Nat) (args : List Value) (h : List HA) (hN : Nat.ble args.length fn.ntmps = true) (hO : Own C h w)
    (hh : Tr ⟨fn.ntmps, C, w, w.heap.size, fun _ => True, []⟩ (enumS 0 args) h (Wp Fence.wide 9 P ⟨RetJ P fn R, RetJ P fn R, []⟩ c)) : Calls P f args.toArray w R := by
  refine (callsIn_wide (n := 9)).1 (callsIn_of_wp hf hb trivial (wpIn_mono (hh _ _ (st_enter C args h (Nat.le_of_ble_eq_true hN) hO)) (fun e a w hq => ?_)) rfl)
  cases e with
  | normal => exact hq
  | ret => exact hq
  | exit i => obtain ⟨J, hj, _⟩ := hq; cases hj
  | goto _ => exact hq.elim
  | panic _ => exact hq.elim
  | outgrown => exact hq.elim
end
section
variable {P : Program} {fn : Func} {X : Cx} {s : List (Nat × Value)} {h : List HA}
theorem post_of_st {N : Nat} {C : List Nat} {w0 : World} {rs : Nat → Prop} {ds : List Deferred} {a : Act} {w : World} {hs : List HA} (st : St ⟨N, C, w0, w0.heap.size, rs, ds⟩ s hs a w) (hr : hs.all HA.outB = true) : Post C w0 w hs :=
  ⟨st.kp, st.ok, st.fr, st.nd, fun x hx r hrr => ⟨HA.rids_frs (List.all_eq_true.1 hr x hx) hrr, fun y hy => st.dj x hx y hy r hrr⟩, fun x hx => (by have := List.all_eq_true.1 hr x hx; cases x <;> first | exact ⟨rfl, rfl⟩ | (cases this; done))⟩
/-- The results, read off the slots. -/
def ResV (P : Program) (fn : Func) (s : List (Nat × Value)) (h : List HA) (v : Value) : Prop := ∀ tmps : Array Value, (∀ k u, s.lookup k = some u → tmps[k]? = some u) → ∀ w, HOK h w → (results fn tmps).run P w = .ok v w
theorem T_fin {N : Nat} {C : List Nat} {w0 : World} {rs : Nat → Prop} {T : Type} {q : T → Prop} {res : T → Value} {hs : T → List HA} (t : T) (hq : q t) (hv : ResV P fn s h (res t)) (is : List Nat) (hp : Pick h is (hs t)) (hr : (hs t).all HA.outB = true) :
    Tr ⟨N, C, w0, w0.heap.size, rs, []⟩ s h (RetJ P fn (Ret C w0 q res hs)) := fun a w st => ⟨st.df, res t, hv _ st.sl _ st.ok, t, hq, rfl, post_of_st (st.pick hp) hr⟩
theorem res0 (hr : fn.results = #[]) : ResV P fn s h (.tuple #[]) := fun tmps hs w hw => by simp [results, hr, go_sem]
theorem res1 {t : Nat} {v : Value} (hr : fn.results = #[.tmp t]) (hv : s.lookup t = some v) : ResV P fn s h v := fun tmps hs w hw => by
  simp [results, hr, go_sem, Array.getD_eq_getD_getElem?, hs t v hv]
theorem res2 {t u : Nat} {v v' : Value} (hr : fn.results = #[.tmp t, .tmp u]) (hv : s.lookup t = some v) (hv' : s.lookup u = some v') : ResV P fn s h (.tuple #[v, v']) := fun tmps hs w hw => by
  simp [results, hr, go_sem, Array.getD_eq_getD_getElem?, hs t v hv, hs u v' hv']
end
end Go.Proofs.Ytlplpmkdebemnaa.Fw
