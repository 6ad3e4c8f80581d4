/-
  No cell of these rows narrows 'for every input' (looked for: loops, veiled, ifaces, maps, wideKeys, modest, calm, conditions, laid).
  DERIVED. THE GIVEN ROWS OF THIS SEAT. 6 by the template 'for every input the law returns true; each argument reads behind the call as it read before'; 0 by the template 'total and deterministic' (their statements: YtlplpmkdebemnaaTotals.lean).
  GIVEN WITH THE SEED: the statements are not yours to turn. If you find one false, say at which input.
  Laid BY PROGRAM, IN A SANDBOX (cutbox-rows.mjs): the forced cells as the released guide's own fill.sh prints them over the translation 5bcd0141dd1946a0… (all of the seat's roots in one cut). By AI agents, Wed Nov 11 2026. No macro, syntax, notation, axiom, sorry.
-/
import Derived.Test.YtlplpmkdebemnaaChecked
import GoSem.Claim
import GoSem.ClaimJoined
import GoSem.ClaimMapViews
import Derived.JoinedTies
import Derived.KernelRfl
namespace Go.Proofs.Ytlplpmkdebemnaa
/- THE CELL 'sum', in the pinned program and in every row, IS THE sha256 OF THE DUMP (.gsa) THAT YtlplpmkdebemnaaProg.lean LOADS. Nothing in Lean hashes anything: it is a label: what it is worth is what the hold of that sum in a sandbox is worth. -/
noncomputable def Try.pinned : Pinned := { name := "ytlplpmkdebemnaa", sum := "5bcd0141dd1946a06ec2878bd31c32ae548c707e44a839125a29c1700ab341a7", checked := Try.checked }
namespace Rows
def none {H : Type} : Left H := { results := [], args := [] }

/-- 'dominolaw10.BlockLimits': WHATEVER THE INPUT: true; the input reads as it did. -/
def blockLimitsSpec : ChangeSpec := { name := "blockLimits", fn := fun _ => fun
  | [d1, d2] => { results := [.lit (.bool true)], args := [d1, d2] }
  | _ => none }
def blockLimitsRow : OpenClaim := { program := "ytlplpmkdebemnaa", sum := "5bcd0141dd1946a06ec2878bd31c32ae548c707e44a839125a29c1700ab341a7", func := "domino/dominolaw10.BlockLimits", spec := "blockLimits", unfollowed := true, recurses := true, plainKeys := false, apart := false }
def BlockLimitsSaid : Prop := blockLimitsRow.holds Try.pinned (OpenSpec.ofChange blockLimitsSpec)

/-- ITS FALSE NEIGHBOUR: 'it returns false'. Refute it at one input. -/
def blockLimitsWrong : ChangeSpec := { name := "blockLimits", fn := fun _ => fun
  | [d1, d2] => { results := [.lit (.bool false)], args := [d1, d2] }
  | _ => none }
def BlockLimitsWrongFalsely : Prop := blockLimitsRow.holds Try.pinned (OpenSpec.ofChange blockLimitsWrong)

/-- 'dominolaw21.LetterPacks': WHATEVER THE INPUT: true; the input reads as it did. -/
def letterPacksSpec : ChangeSpec := { name := "letterPacks", fn := fun _ => fun
  | [d1, d2] => { results := [.lit (.bool true)], args := [d1, d2] }
  | _ => none }
def letterPacksRow : OpenClaim := { program := "ytlplpmkdebemnaa", sum := "5bcd0141dd1946a06ec2878bd31c32ae548c707e44a839125a29c1700ab341a7", func := "domino/dominolaw21.LetterPacks", spec := "letterPacks", unfollowed := true, recurses := true, plainKeys := false, apart := false }
def LetterPacksSaid : Prop := letterPacksRow.holds Try.pinned (OpenSpec.ofChange letterPacksSpec)

/-- ITS FALSE NEIGHBOUR: 'it returns false'. Refute it at one input. -/
def letterPacksWrong : ChangeSpec := { name := "letterPacks", fn := fun _ => fun
  | [d1, d2] => { results := [.lit (.bool false)], args := [d1, d2] }
  | _ => none }
def LetterPacksWrongFalsely : Prop := letterPacksRow.holds Try.pinned (OpenSpec.ofChange letterPacksWrong)

/-- 'dominolaw10.BlockPacks': WHATEVER THE INPUT: true; the input reads as it did. -/
def blockPacksSpec : ChangeSpec := { name := "blockPacks", fn := fun _ => fun
  | [d1, d2, d3] => { results := [.lit (.bool true)], args := [d1, d2, d3] }
  | _ => none }
def blockPacksRow : OpenClaim := { program := "ytlplpmkdebemnaa", sum := "5bcd0141dd1946a06ec2878bd31c32ae548c707e44a839125a29c1700ab341a7", func := "domino/dominolaw10.BlockPacks", spec := "blockPacks", unfollowed := true, recurses := true, plainKeys := false, apart := false }
def BlockPacksSaid : Prop := blockPacksRow.holds Try.pinned (OpenSpec.ofChange blockPacksSpec)

/-- ITS FALSE NEIGHBOUR: 'it returns false'. Refute it at one input. -/
def blockPacksWrong : ChangeSpec := { name := "blockPacks", fn := fun _ => fun
  | [d1, d2, d3] => { results := [.lit (.bool false)], args := [d1, d2, d3] }
  | _ => none }
def BlockPacksWrongFalsely : Prop := blockPacksRow.holds Try.pinned (OpenSpec.ofChange blockPacksWrong)

/-- 'dominolaw21.LetterLengths': WHATEVER THE INPUT: true; the input reads as it did. -/
def letterLengthsSpec : ChangeSpec := { name := "letterLengths", fn := fun _ => fun
  | [d1, d2, d3, d4, d5, d6] => { results := [.lit (.bool true)], args := [d1, d2, d3, d4, d5, d6] }
  | _ => none }
def letterLengthsRow : OpenClaim := { program := "ytlplpmkdebemnaa", sum := "5bcd0141dd1946a06ec2878bd31c32ae548c707e44a839125a29c1700ab341a7", func := "domino/dominolaw21.LetterLengths", spec := "letterLengths", inPlace := ["math/bits.Add64"], unfollowed := true, recurses := true, plainKeys := false, apart := false }
def LetterLengthsSaid : Prop := letterLengthsRow.holds Try.pinned (OpenSpec.ofChange letterLengthsSpec)

/-- ITS FALSE NEIGHBOUR: 'it returns false'. Refute it at one input. -/
def letterLengthsWrong : ChangeSpec := { name := "letterLengths", fn := fun _ => fun
  | [d1, d2, d3, d4, d5, d6] => { results := [.lit (.bool false)], args := [d1, d2, d3, d4, d5, d6] }
  | _ => none }
def LetterLengthsWrongFalsely : Prop := letterLengthsRow.holds Try.pinned (OpenSpec.ofChange letterLengthsWrong)

/-- 'dominolaw21.LetterFrom': WHATEVER THE INPUT: true; the input reads as it did. -/
def letterFromSpec : ChangeSpec := { name := "letterFrom", fn := fun _ => fun
  | [d1, d2, d3, d4, d5, d6] => { results := [.lit (.bool true)], args := [d1, d2, d3, d4, d5, d6] }
  | _ => none }
def letterFromRow : OpenClaim := { program := "ytlplpmkdebemnaa", sum := "5bcd0141dd1946a06ec2878bd31c32ae548c707e44a839125a29c1700ab341a7", func := "domino/dominolaw21.LetterFrom", spec := "letterFrom", inPlace := ["math/bits.Add64"], unfollowed := true, recurses := true, plainKeys := false, apart := false }
def LetterFromSaid : Prop := letterFromRow.holds Try.pinned (OpenSpec.ofChange letterFromSpec)

/-- ITS FALSE NEIGHBOUR: 'it returns false'. Refute it at one input. -/
def letterFromWrong : ChangeSpec := { name := "letterFrom", fn := fun _ => fun
  | [d1, d2, d3, d4, d5, d6] => { results := [.lit (.bool false)], args := [d1, d2, d3, d4, d5, d6] }
  | _ => none }
def LetterFromWrongFalsely : Prop := letterFromRow.holds Try.pinned (OpenSpec.ofChange letterFromWrong)

/-- 'dominolaw10.BlockPlaces': WHATEVER THE INPUT: true; the input reads as it did. -/
def blockPlacesSpec : ChangeSpec := { name := "blockPlaces", fn := fun _ => fun
  | [d1, d2, d3, d4, d5] => { results := [.lit (.bool true)], args := [d1, d2, d3, d4, d5] }
  | _ => none }
def blockPlacesRow : OpenClaim := { program := "ytlplpmkdebemnaa", sum := "5bcd0141dd1946a06ec2878bd31c32ae548c707e44a839125a29c1700ab341a7", func := "domino/dominolaw10.BlockPlaces", spec := "blockPlaces", inPlace := ["math/bits.Add64"], unfollowed := true, recurses := true, plainKeys := false, apart := false }
def BlockPlacesSaid : Prop := blockPlacesRow.holds Try.pinned (OpenSpec.ofChange blockPlacesSpec)

/-- ITS FALSE NEIGHBOUR: 'it returns false'. Refute it at one input. -/
def blockPlacesWrong : ChangeSpec := { name := "blockPlaces", fn := fun _ => fun
  | [d1, d2, d3, d4, d5] => { results := [.lit (.bool false)], args := [d1, d2, d3, d4, d5] }
  | _ => none }
def BlockPlacesWrongFalsely : Prop := blockPlacesRow.holds Try.pinned (OpenSpec.ofChange blockPlacesWrong)

/- THE SECOND FORM. 'bulk': how many values and letters a reading holds, each counted each time it is reached (what is shared counts as often as it is met; a slice's spare places count too). A statement '..UptoSaid' is the law's where the arguments, and the package variables that the reading takes, are together of bulk at most 1048576: NARROWER than '..Said'. Prove '..Said' where nothing that the law and all that it calls make is longer than what came in: it says more and counts as full. Else prove '..UptoSaid'. A law counts once. -/
mutual
def uptoBulk {H : Type} : DataW H → Nat
  | .lit (.string bytes) => bytes.length + 1
  | .lit _ => 1
  | .nil => 1
  | .ptr d => uptoBulk d + 1
  | .slice elems spare => uptoBulkAll elems + uptoBulkAll spare + 1
  | .agg parts => uptoBulkAll parts + 1
  | .iface _ d => uptoBulk d + 1
  | .map entries => uptoBulkEntries entries + 1
  | .held _ => 1
def uptoBulkAll {H : Type} : List (DataW H) → Nat
  | [] => 0
  | d :: r => uptoBulk d + uptoBulkAll r
def uptoBulkEntries {H : Type} : List (Lit × DataW H) → Nat
  | [] => 0
  | x :: r => uptoBulkEntry x + uptoBulkEntries r
def uptoBulkEntry {H : Type} : Lit × DataW H → Nat
  | (.string bytes, d) => bytes.length + uptoBulk d + 1
  | (_, d) => uptoBulk d + 1
 end
def uptoSmall : (H : Type) → List (DataW H) → Bool := fun _ ds => decide (uptoBulkAll ds ≤ 1048576)
def OpenSpec.upto (s : _root_.Go.ChangeSpec) : _root_.Go.OpenSpec := { _root_.Go.OpenSpec.ofChange s with cond := some uptoSmall }

/-- 'dominolaw10.BlockLimits', WHERE WHAT IT READS IS OF BULK AT MOST 1048576: true; the input reads as it did. -/
def blockLimitsUptoRow : OpenClaim := { program := "ytlplpmkdebemnaa", sum := "5bcd0141dd1946a06ec2878bd31c32ae548c707e44a839125a29c1700ab341a7", func := "domino/dominolaw10.BlockLimits", spec := "blockLimits", unfollowed := true, recurses := true, plainKeys := false, apart := false, narrowed := true }
def BlockLimitsUptoSaid : Prop := blockLimitsUptoRow.holds Try.pinned (OpenSpec.upto blockLimitsSpec)

/-- 'dominolaw21.LetterPacks', WHERE WHAT IT READS IS OF BULK AT MOST 1048576: true; the input reads as it did. -/
def letterPacksUptoRow : OpenClaim := { program := "ytlplpmkdebemnaa", sum := "5bcd0141dd1946a06ec2878bd31c32ae548c707e44a839125a29c1700ab341a7", func := "domino/dominolaw21.LetterPacks", spec := "letterPacks", unfollowed := true, recurses := true, plainKeys := false, apart := false, narrowed := true }
def LetterPacksUptoSaid : Prop := letterPacksUptoRow.holds Try.pinned (OpenSpec.upto letterPacksSpec)

/-- 'dominolaw10.BlockPacks', WHERE WHAT IT READS IS OF BULK AT MOST 1048576: true; the input reads as it did. -/
def blockPacksUptoRow : OpenClaim := { program := "ytlplpmkdebemnaa", sum := "5bcd0141dd1946a06ec2878bd31c32ae548c707e44a839125a29c1700ab341a7", func := "domino/dominolaw10.BlockPacks", spec := "blockPacks", unfollowed := true, recurses := true, plainKeys := false, apart := false, narrowed := true }
def BlockPacksUptoSaid : Prop := blockPacksUptoRow.holds Try.pinned (OpenSpec.upto blockPacksSpec)

/-- 'dominolaw21.LetterLengths', WHERE WHAT IT READS IS OF BULK AT MOST 1048576: true; the input reads as it did. -/
def letterLengthsUptoRow : OpenClaim := { program := "ytlplpmkdebemnaa", sum := "5bcd0141dd1946a06ec2878bd31c32ae548c707e44a839125a29c1700ab341a7", func := "domino/dominolaw21.LetterLengths", spec := "letterLengths", inPlace := ["math/bits.Add64"], unfollowed := true, recurses := true, plainKeys := false, apart := false, narrowed := true }
def LetterLengthsUptoSaid : Prop := letterLengthsUptoRow.holds Try.pinned (OpenSpec.upto letterLengthsSpec)

/-- 'dominolaw21.LetterFrom', WHERE WHAT IT READS IS OF BULK AT MOST 1048576: true; the input reads as it did. -/
def letterFromUptoRow : OpenClaim := { program := "ytlplpmkdebemnaa", sum := "5bcd0141dd1946a06ec2878bd31c32ae548c707e44a839125a29c1700ab341a7", func := "domino/dominolaw21.LetterFrom", spec := "letterFrom", inPlace := ["math/bits.Add64"], unfollowed := true, recurses := true, plainKeys := false, apart := false, narrowed := true }
def LetterFromUptoSaid : Prop := letterFromUptoRow.holds Try.pinned (OpenSpec.upto letterFromSpec)

/-- 'dominolaw10.BlockPlaces', WHERE WHAT IT READS IS OF BULK AT MOST 1048576: true; the input reads as it did. -/
def blockPlacesUptoRow : OpenClaim := { program := "ytlplpmkdebemnaa", sum := "5bcd0141dd1946a06ec2878bd31c32ae548c707e44a839125a29c1700ab341a7", func := "domino/dominolaw10.BlockPlaces", spec := "blockPlaces", inPlace := ["math/bits.Add64"], unfollowed := true, recurses := true, plainKeys := false, apart := false, narrowed := true }
def BlockPlacesUptoSaid : Prop := blockPlacesUptoRow.holds Try.pinned (OpenSpec.upto blockPlacesSpec)

end Rows
end Go.Proofs.Ytlplpmkdebemnaa
