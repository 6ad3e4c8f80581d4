/-
  No cell of these rows narrows 'for every input' (looked for: loops, veiled, ifaces, maps, wideKeys, modest, calm, conditions, laid).
  DERIVED. THE GIVEN ROWS OF THIS SEAT. 13 by the template 'for every input the law returns true; each argument reads behind the call as it read before'; 0 by the template 'total and deterministic' (their statements: YtemjinkdfjoicaaTotals.lean).
  GIVEN WITH THE SEED: the statements are not yours to turn. If you find one false, say at which input.
  Laid BY PROGRAM, IN A SANDBOX (cutbox-rows.mjs): the forced cells as the released guide's own fill.sh prints them over the translation ffedd2ae86147e06… (all of the seat's roots in one cut). By AI agents, Wed Nov 11 2026. No macro, syntax, notation, axiom, sorry.
-/
import Derived.Test.YtemjinkdfjoicaaChecked
import GoSem.Claim
import GoSem.ClaimJoined
import GoSem.ClaimMapViews
import Derived.JoinedTies
import Derived.KernelRfl
namespace Go.Proofs.Ytemjinkdfjoicaa
/- THE CELL 'sum', in the pinned program and in every row, IS THE sha256 OF THE DUMP (.gsa) THAT YtemjinkdfjoicaaProg.lean LOADS. Nothing in Lean hashes anything: it is a label: what it is worth is what the hold of that sum in a sandbox is worth. -/
noncomputable def Try.pinned : Pinned := { name := "ytemjinkdfjoicaa", sum := "ffedd2ae86147e06936cbbb79aeaadcbc80dd35fe41e54bfafe4449acb16f4e0", checked := Try.checked }
namespace Rows
def none {H : Type} : Left H := { results := [], args := [] }

/-- 'dominolaw06.PolyTags': WHATEVER THE INPUT: true; the input reads as it did. -/
def polyTagsSpec : ChangeSpec := { name := "polyTags", fn := fun _ => fun
  | [d1, d2] => { results := [.lit (.bool true)], args := [d1, d2] }
  | _ => none }
def polyTagsRow : OpenClaim := { program := "ytemjinkdfjoicaa", sum := "ffedd2ae86147e06936cbbb79aeaadcbc80dd35fe41e54bfafe4449acb16f4e0", func := "domino/dominolaw06.PolyTags", spec := "polyTags", inPlace := ["math/bits.Add64"], unfollowed := true, recurses := true, apart := false }
def PolyTagsSaid : Prop := polyTagsRow.holds Try.pinned (OpenSpec.ofChange polyTagsSpec)

/-- ITS FALSE NEIGHBOUR: 'it returns false'. Refute it at one input. -/
def polyTagsWrong : ChangeSpec := { name := "polyTags", fn := fun _ => fun
  | [d1, d2] => { results := [.lit (.bool false)], args := [d1, d2] }
  | _ => none }
def PolyTagsWrongFalsely : Prop := polyTagsRow.holds Try.pinned (OpenSpec.ofChange polyTagsWrong)

/-- 'dominolaw06.PolyEdges': WHATEVER THE INPUT: true; the input reads as it did. -/
def polyEdgesSpec : ChangeSpec := { name := "polyEdges", fn := fun _ => fun
  | [d1, d2, d3, d4] => { results := [.lit (.bool true)], args := [d1, d2, d3, d4] }
  | _ => none }
def polyEdgesRow : OpenClaim := { program := "ytemjinkdfjoicaa", sum := "ffedd2ae86147e06936cbbb79aeaadcbc80dd35fe41e54bfafe4449acb16f4e0", func := "domino/dominolaw06.PolyEdges", spec := "polyEdges", inPlace := ["math/bits.Add64"], unfollowed := true, recurses := true, apart := false }
def PolyEdgesSaid : Prop := polyEdgesRow.holds Try.pinned (OpenSpec.ofChange polyEdgesSpec)

/-- ITS FALSE NEIGHBOUR: 'it returns false'. Refute it at one input. -/
def polyEdgesWrong : ChangeSpec := { name := "polyEdges", fn := fun _ => fun
  | [d1, d2, d3, d4] => { results := [.lit (.bool false)], args := [d1, d2, d3, d4] }
  | _ => none }
def PolyEdgesWrongFalsely : Prop := polyEdgesRow.holds Try.pinned (OpenSpec.ofChange polyEdgesWrong)

/-- 'dominolaw06.PolyOne': WHATEVER THE INPUT: true; the input reads as it did. -/
def polyOneSpec : ChangeSpec := { name := "polyOne", fn := fun _ => fun
  | [d1, d2] => { results := [.lit (.bool true)], args := [d1, d2] }
  | _ => none }
def polyOneRow : OpenClaim := { program := "ytemjinkdfjoicaa", sum := "ffedd2ae86147e06936cbbb79aeaadcbc80dd35fe41e54bfafe4449acb16f4e0", func := "domino/dominolaw06.PolyOne", spec := "polyOne", inPlace := ["math/bits.Add64"], unfollowed := true, recurses := true, apart := false }
def PolyOneSaid : Prop := polyOneRow.holds Try.pinned (OpenSpec.ofChange polyOneSpec)

/-- ITS FALSE NEIGHBOUR: 'it returns false'. Refute it at one input. -/
def polyOneWrong : ChangeSpec := { name := "polyOne", fn := fun _ => fun
  | [d1, d2] => { results := [.lit (.bool false)], args := [d1, d2] }
  | _ => none }
def PolyOneWrongFalsely : Prop := polyOneRow.holds Try.pinned (OpenSpec.ofChange polyOneWrong)

/-- 'dominolaw06.PolyTwice': WHATEVER THE INPUT: true; the input reads as it did. -/
def polyTwiceSpec : ChangeSpec := { name := "polyTwice", fn := fun _ => fun
  | [d1, d2] => { results := [.lit (.bool true)], args := [d1, d2] }
  | _ => none }
def polyTwiceRow : OpenClaim := { program := "ytemjinkdfjoicaa", sum := "ffedd2ae86147e06936cbbb79aeaadcbc80dd35fe41e54bfafe4449acb16f4e0", func := "domino/dominolaw06.PolyTwice", spec := "polyTwice", inPlace := ["math/bits.Add64"], unfollowed := true, recurses := true, apart := false }
def PolyTwiceSaid : Prop := polyTwiceRow.holds Try.pinned (OpenSpec.ofChange polyTwiceSpec)

/-- ITS FALSE NEIGHBOUR: 'it returns false'. Refute it at one input. -/
def polyTwiceWrong : ChangeSpec := { name := "polyTwice", fn := fun _ => fun
  | [d1, d2] => { results := [.lit (.bool false)], args := [d1, d2] }
  | _ => none }
def PolyTwiceWrongFalsely : Prop := polyTwiceRow.holds Try.pinned (OpenSpec.ofChange polyTwiceWrong)

/-- 'dominolaw06.PolyClamps': WHATEVER THE INPUT: true; the input reads as it did. -/
def polyClampsSpec : ChangeSpec := { name := "polyClamps", fn := fun _ => fun
  | [d1, d2] => { results := [.lit (.bool true)], args := [d1, d2] }
  | _ => none }
def polyClampsRow : OpenClaim := { program := "ytemjinkdfjoicaa", sum := "ffedd2ae86147e06936cbbb79aeaadcbc80dd35fe41e54bfafe4449acb16f4e0", func := "domino/dominolaw06.PolyClamps", spec := "polyClamps", inPlace := ["math/bits.Add64"], unfollowed := true, recurses := true, apart := false }
def PolyClampsSaid : Prop := polyClampsRow.holds Try.pinned (OpenSpec.ofChange polyClampsSpec)

/-- ITS FALSE NEIGHBOUR: 'it returns false'. Refute it at one input. -/
def polyClampsWrong : ChangeSpec := { name := "polyClamps", fn := fun _ => fun
  | [d1, d2] => { results := [.lit (.bool false)], args := [d1, d2] }
  | _ => none }
def PolyClampsWrongFalsely : Prop := polyClampsRow.holds Try.pinned (OpenSpec.ofChange polyClampsWrong)

/-- 'dominolaw06.PolyParts': WHATEVER THE INPUT: true; the input reads as it did. -/
def polyPartsSpec : ChangeSpec := { name := "polyParts", fn := fun _ => fun
  | [d1, d2, d3] => { results := [.lit (.bool true)], args := [d1, d2, d3] }
  | _ => none }
def polyPartsRow : OpenClaim := { program := "ytemjinkdfjoicaa", sum := "ffedd2ae86147e06936cbbb79aeaadcbc80dd35fe41e54bfafe4449acb16f4e0", func := "domino/dominolaw06.PolyParts", spec := "polyParts", inPlace := ["math/bits.Add64"], unfollowed := true, recurses := true, apart := false }
def PolyPartsSaid : Prop := polyPartsRow.holds Try.pinned (OpenSpec.ofChange polyPartsSpec)

/-- ITS FALSE NEIGHBOUR: 'it returns false'. Refute it at one input. -/
def polyPartsWrong : ChangeSpec := { name := "polyParts", fn := fun _ => fun
  | [d1, d2, d3] => { results := [.lit (.bool false)], args := [d1, d2, d3] }
  | _ => none }
def PolyPartsWrongFalsely : Prop := polyPartsRow.holds Try.pinned (OpenSpec.ofChange polyPartsWrong)

/-- 'dominolaw07.AeadSeals': WHATEVER THE INPUT: true; the input reads as it did. -/
def aeadSealsSpec : ChangeSpec := { name := "aeadSeals", fn := fun _ => fun
  | [d1, d2, d3, d4] => { results := [.lit (.bool true)], args := [d1, d2, d3, d4] }
  | _ => none }
def aeadSealsRow : OpenClaim := { program := "ytemjinkdfjoicaa", sum := "ffedd2ae86147e06936cbbb79aeaadcbc80dd35fe41e54bfafe4449acb16f4e0", func := "domino/dominolaw07.AeadSeals", spec := "aeadSeals", inPlace := ["math/bits.Add64"], unfollowed := true, recurses := true, apart := false }
def AeadSealsSaid : Prop := aeadSealsRow.holds Try.pinned (OpenSpec.ofChange aeadSealsSpec)

/-- ITS FALSE NEIGHBOUR: 'it returns false'. Refute it at one input. -/
def aeadSealsWrong : ChangeSpec := { name := "aeadSeals", fn := fun _ => fun
  | [d1, d2, d3, d4] => { results := [.lit (.bool false)], args := [d1, d2, d3, d4] }
  | _ => none }
def AeadSealsWrongFalsely : Prop := aeadSealsRow.holds Try.pinned (OpenSpec.ofChange aeadSealsWrong)

/-- 'dominolaw07.AeadOpens': WHATEVER THE INPUT: true; the input reads as it did. -/
def aeadOpensSpec : ChangeSpec := { name := "aeadOpens", fn := fun _ => fun
  | [d1, d2, d3, d4] => { results := [.lit (.bool true)], args := [d1, d2, d3, d4] }
  | _ => none }
def aeadOpensRow : OpenClaim := { program := "ytemjinkdfjoicaa", sum := "ffedd2ae86147e06936cbbb79aeaadcbc80dd35fe41e54bfafe4449acb16f4e0", func := "domino/dominolaw07.AeadOpens", spec := "aeadOpens", inPlace := ["math/bits.Add64"], unfollowed := true, recurses := true, apart := false }
def AeadOpensSaid : Prop := aeadOpensRow.holds Try.pinned (OpenSpec.ofChange aeadOpensSpec)

/-- ITS FALSE NEIGHBOUR: 'it returns false'. Refute it at one input. -/
def aeadOpensWrong : ChangeSpec := { name := "aeadOpens", fn := fun _ => fun
  | [d1, d2, d3, d4] => { results := [.lit (.bool false)], args := [d1, d2, d3, d4] }
  | _ => none }
def AeadOpensWrongFalsely : Prop := aeadOpensRow.holds Try.pinned (OpenSpec.ofChange aeadOpensWrong)

/-- 'dominolaw07.AeadBack': WHATEVER THE INPUT: true; the input reads as it did. -/
def aeadBackSpec : ChangeSpec := { name := "aeadBack", fn := fun _ => fun
  | [d1, d2, d3, d4, d5, d6, d7] => { results := [.lit (.bool true)], args := [d1, d2, d3, d4, d5, d6, d7] }
  | _ => none }
def aeadBackRow : OpenClaim := { program := "ytemjinkdfjoicaa", sum := "ffedd2ae86147e06936cbbb79aeaadcbc80dd35fe41e54bfafe4449acb16f4e0", func := "domino/dominolaw07.AeadBack", spec := "aeadBack", inPlace := ["math/bits.Add64"], unfollowed := true, recurses := true, apart := false }
def AeadBackSaid : Prop := aeadBackRow.holds Try.pinned (OpenSpec.ofChange aeadBackSpec)

/-- ITS FALSE NEIGHBOUR: 'it returns false'. Refute it at one input. -/
def aeadBackWrong : ChangeSpec := { name := "aeadBack", fn := fun _ => fun
  | [d1, d2, d3, d4, d5, d6, d7] => { results := [.lit (.bool false)], args := [d1, d2, d3, d4, d5, d6, d7] }
  | _ => none }
def AeadBackWrongFalsely : Prop := aeadBackRow.holds Try.pinned (OpenSpec.ofChange aeadBackWrong)

/-- 'dominolaw07.AeadLimit': WHATEVER THE INPUT: true; the input reads as it did. -/
def aeadLimitSpec : ChangeSpec := { name := "aeadLimit", fn := fun _ => fun
  | [d1, d2] => { results := [.lit (.bool true)], args := [d1, d2] }
  | _ => none }
def aeadLimitRow : OpenClaim := { program := "ytemjinkdfjoicaa", sum := "ffedd2ae86147e06936cbbb79aeaadcbc80dd35fe41e54bfafe4449acb16f4e0", func := "domino/dominolaw07.AeadLimit", spec := "aeadLimit", inPlace := ["math/bits.Add64"], unfollowed := true, recurses := true, apart := false }
def AeadLimitSaid : Prop := aeadLimitRow.holds Try.pinned (OpenSpec.ofChange aeadLimitSpec)

/-- ITS FALSE NEIGHBOUR: 'it returns false'. Refute it at one input. -/
def aeadLimitWrong : ChangeSpec := { name := "aeadLimit", fn := fun _ => fun
  | [d1, d2] => { results := [.lit (.bool false)], args := [d1, d2] }
  | _ => none }
def AeadLimitWrongFalsely : Prop := aeadLimitRow.holds Try.pinned (OpenSpec.ofChange aeadLimitWrong)

/-- 'dominolaw07.AeadStream': WHATEVER THE INPUT: true; the input reads as it did. -/
def aeadStreamSpec : ChangeSpec := { name := "aeadStream", fn := fun _ => fun
  | [d1, d2, d3, d4, d5] => { results := [.lit (.bool true)], args := [d1, d2, d3, d4, d5] }
  | _ => none }
def aeadStreamRow : OpenClaim := { program := "ytemjinkdfjoicaa", sum := "ffedd2ae86147e06936cbbb79aeaadcbc80dd35fe41e54bfafe4449acb16f4e0", func := "domino/dominolaw07.AeadStream", spec := "aeadStream", inPlace := ["math/bits.Add64"], unfollowed := true, recurses := true, apart := false }
def AeadStreamSaid : Prop := aeadStreamRow.holds Try.pinned (OpenSpec.ofChange aeadStreamSpec)

/-- ITS FALSE NEIGHBOUR: 'it returns false'. Refute it at one input. -/
def aeadStreamWrong : ChangeSpec := { name := "aeadStream", fn := fun _ => fun
  | [d1, d2, d3, d4, d5] => { results := [.lit (.bool false)], args := [d1, d2, d3, d4, d5] }
  | _ => none }
def AeadStreamWrongFalsely : Prop := aeadStreamRow.holds Try.pinned (OpenSpec.ofChange aeadStreamWrong)

/-- 'dominolaw07.AeadLengths': WHATEVER THE INPUT: true; the input reads as it did. -/
def aeadLengthsSpec : ChangeSpec := { name := "aeadLengths", fn := fun _ => fun
  | [d1, d2, d3, d4] => { results := [.lit (.bool true)], args := [d1, d2, d3, d4] }
  | _ => none }
def aeadLengthsRow : OpenClaim := { program := "ytemjinkdfjoicaa", sum := "ffedd2ae86147e06936cbbb79aeaadcbc80dd35fe41e54bfafe4449acb16f4e0", func := "domino/dominolaw07.AeadLengths", spec := "aeadLengths", inPlace := ["math/bits.Add64"], unfollowed := true, recurses := true, apart := false }
def AeadLengthsSaid : Prop := aeadLengthsRow.holds Try.pinned (OpenSpec.ofChange aeadLengthsSpec)

/-- ITS FALSE NEIGHBOUR: 'it returns false'. Refute it at one input. -/
def aeadLengthsWrong : ChangeSpec := { name := "aeadLengths", fn := fun _ => fun
  | [d1, d2, d3, d4] => { results := [.lit (.bool false)], args := [d1, d2, d3, d4] }
  | _ => none }
def AeadLengthsWrongFalsely : Prop := aeadLengthsRow.holds Try.pinned (OpenSpec.ofChange aeadLengthsWrong)

/-- 'dominolaw07.AeadShort': WHATEVER THE INPUT: true; the input reads as it did. -/
def aeadShortSpec : ChangeSpec := { name := "aeadShort", fn := fun _ => fun
  | [d1, d2, d3, d4] => { results := [.lit (.bool true)], args := [d1, d2, d3, d4] }
  | _ => none }
def aeadShortRow : OpenClaim := { program := "ytemjinkdfjoicaa", sum := "ffedd2ae86147e06936cbbb79aeaadcbc80dd35fe41e54bfafe4449acb16f4e0", func := "domino/dominolaw07.AeadShort", spec := "aeadShort", inPlace := ["math/bits.Add64"], unfollowed := true, recurses := true, apart := false }
def AeadShortSaid : Prop := aeadShortRow.holds Try.pinned (OpenSpec.ofChange aeadShortSpec)

/-- ITS FALSE NEIGHBOUR: 'it returns false'. Refute it at one input. -/
def aeadShortWrong : ChangeSpec := { name := "aeadShort", fn := fun _ => fun
  | [d1, d2, d3, d4] => { results := [.lit (.bool false)], args := [d1, d2, d3, d4] }
  | _ => none }
def AeadShortWrongFalsely : Prop := aeadShortRow.holds Try.pinned (OpenSpec.ofChange aeadShortWrong)

/- THE SECOND FORM. 'bulk': how many values and letters a reading holds, each counted each time it is reached (what is shared counts as often as it is met; a slice's spare places count too). A statement '..UptoSaid' is the law's where the arguments, and the package variables that the reading takes, are together of bulk at most 1048576: NARROWER than '..Said'. Prove '..Said' where nothing that the law and all that it calls make is longer than what came in: it says more and counts as full. Else prove '..UptoSaid'. A law counts once. -/
mutual
def uptoBulk {H : Type} : DataW H → Nat
  | .lit (.string bytes) => bytes.length + 1
  | .lit _ => 1
  | .nil => 1
  | .ptr d => uptoBulk d + 1
  | .slice elems spare => uptoBulkAll elems + uptoBulkAll spare + 1
  | .agg parts => uptoBulkAll parts + 1
  | .iface _ d => uptoBulk d + 1
  | .map entries => uptoBulkEntries entries + 1
  | .held _ => 1
def uptoBulkAll {H : Type} : List (DataW H) → Nat
  | [] => 0
  | d :: r => uptoBulk d + uptoBulkAll r
def uptoBulkEntries {H : Type} : List (Lit × DataW H) → Nat
  | [] => 0
  | x :: r => uptoBulkEntry x + uptoBulkEntries r
def uptoBulkEntry {H : Type} : Lit × DataW H → Nat
  | (.string bytes, d) => bytes.length + uptoBulk d + 1
  | (_, d) => uptoBulk d + 1
 end
def uptoSmall : (H : Type) → List (DataW H) → Bool := fun _ ds => decide (uptoBulkAll ds ≤ 1048576)
def OpenSpec.upto (s : _root_.Go.ChangeSpec) : _root_.Go.OpenSpec := { _root_.Go.OpenSpec.ofChange s with cond := some uptoSmall }

/-- 'dominolaw06.PolyTags', WHERE WHAT IT READS IS OF BULK AT MOST 1048576: true; the input reads as it did. -/
def polyTagsUptoRow : OpenClaim := { program := "ytemjinkdfjoicaa", sum := "ffedd2ae86147e06936cbbb79aeaadcbc80dd35fe41e54bfafe4449acb16f4e0", func := "domino/dominolaw06.PolyTags", spec := "polyTags", inPlace := ["math/bits.Add64"], unfollowed := true, recurses := true, apart := false, narrowed := true }
def PolyTagsUptoSaid : Prop := polyTagsUptoRow.holds Try.pinned (OpenSpec.upto polyTagsSpec)

/-- 'dominolaw06.PolyEdges', WHERE WHAT IT READS IS OF BULK AT MOST 1048576: true; the input reads as it did. -/
def polyEdgesUptoRow : OpenClaim := { program := "ytemjinkdfjoicaa", sum := "ffedd2ae86147e06936cbbb79aeaadcbc80dd35fe41e54bfafe4449acb16f4e0", func := "domino/dominolaw06.PolyEdges", spec := "polyEdges", inPlace := ["math/bits.Add64"], unfollowed := true, recurses := true, apart := false, narrowed := true }
def PolyEdgesUptoSaid : Prop := polyEdgesUptoRow.holds Try.pinned (OpenSpec.upto polyEdgesSpec)

/-- 'dominolaw06.PolyOne', WHERE WHAT IT READS IS OF BULK AT MOST 1048576: true; the input reads as it did. -/
def polyOneUptoRow : OpenClaim := { program := "ytemjinkdfjoicaa", sum := "ffedd2ae86147e06936cbbb79aeaadcbc80dd35fe41e54bfafe4449acb16f4e0", func := "domino/dominolaw06.PolyOne", spec := "polyOne", inPlace := ["math/bits.Add64"], unfollowed := true, recurses := true, apart := false, narrowed := true }
def PolyOneUptoSaid : Prop := polyOneUptoRow.holds Try.pinned (OpenSpec.upto polyOneSpec)

/-- 'dominolaw06.PolyTwice', WHERE WHAT IT READS IS OF BULK AT MOST 1048576: true; the input reads as it did. -/
def polyTwiceUptoRow : OpenClaim := { program := "ytemjinkdfjoicaa", sum := "ffedd2ae86147e06936cbbb79aeaadcbc80dd35fe41e54bfafe4449acb16f4e0", func := "domino/dominolaw06.PolyTwice", spec := "polyTwice", inPlace := ["math/bits.Add64"], unfollowed := true, recurses := true, apart := false, narrowed := true }
def PolyTwiceUptoSaid : Prop := polyTwiceUptoRow.holds Try.pinned (OpenSpec.upto polyTwiceSpec)

/-- 'dominolaw06.PolyClamps', WHERE WHAT IT READS IS OF BULK AT MOST 1048576: true; the input reads as it did. -/
def polyClampsUptoRow : OpenClaim := { program := "ytemjinkdfjoicaa", sum := "ffedd2ae86147e06936cbbb79aeaadcbc80dd35fe41e54bfafe4449acb16f4e0", func := "domino/dominolaw06.PolyClamps", spec := "polyClamps", inPlace := ["math/bits.Add64"], unfollowed := true, recurses := true, apart := false, narrowed := true }
def PolyClampsUptoSaid : Prop := polyClampsUptoRow.holds Try.pinned (OpenSpec.upto polyClampsSpec)

/-- 'dominolaw06.PolyParts', WHERE WHAT IT READS IS OF BULK AT MOST 1048576: true; the input reads as it did. -/
def polyPartsUptoRow : OpenClaim := { program := "ytemjinkdfjoicaa", sum := "ffedd2ae86147e06936cbbb79aeaadcbc80dd35fe41e54bfafe4449acb16f4e0", func := "domino/dominolaw06.PolyParts", spec := "polyParts", inPlace := ["math/bits.Add64"], unfollowed := true, recurses := true, apart := false, narrowed := true }
def PolyPartsUptoSaid : Prop := polyPartsUptoRow.holds Try.pinned (OpenSpec.upto polyPartsSpec)

/-- 'dominolaw07.AeadSeals', WHERE WHAT IT READS IS OF BULK AT MOST 1048576: true; the input reads as it did. -/
def aeadSealsUptoRow : OpenClaim := { program := "ytemjinkdfjoicaa", sum := "ffedd2ae86147e06936cbbb79aeaadcbc80dd35fe41e54bfafe4449acb16f4e0", func := "domino/dominolaw07.AeadSeals", spec := "aeadSeals", inPlace := ["math/bits.Add64"], unfollowed := true, recurses := true, apart := false, narrowed := true }
def AeadSealsUptoSaid : Prop := aeadSealsUptoRow.holds Try.pinned (OpenSpec.upto aeadSealsSpec)

/-- 'dominolaw07.AeadOpens', WHERE WHAT IT READS IS OF BULK AT MOST 1048576: true; the input reads as it did. -/
def aeadOpensUptoRow : OpenClaim := { program := "ytemjinkdfjoicaa", sum := "ffedd2ae86147e06936cbbb79aeaadcbc80dd35fe41e54bfafe4449acb16f4e0", func := "domino/dominolaw07.AeadOpens", spec := "aeadOpens", inPlace := ["math/bits.Add64"], unfollowed := true, recurses := true, apart := false, narrowed := true }
def AeadOpensUptoSaid : Prop := aeadOpensUptoRow.holds Try.pinned (OpenSpec.upto aeadOpensSpec)

/-- 'dominolaw07.AeadBack', WHERE WHAT IT READS IS OF BULK AT MOST 1048576: true; the input reads as it did. -/
def aeadBackUptoRow : OpenClaim := { program := "ytemjinkdfjoicaa", sum := "ffedd2ae86147e06936cbbb79aeaadcbc80dd35fe41e54bfafe4449acb16f4e0", func := "domino/dominolaw07.AeadBack", spec := "aeadBack", inPlace := ["math/bits.Add64"], unfollowed := true, recurses := true, apart := false, narrowed := true }
def AeadBackUptoSaid : Prop := aeadBackUptoRow.holds Try.pinned (OpenSpec.upto aeadBackSpec)

/-- 'dominolaw07.AeadLimit', WHERE WHAT IT READS IS OF BULK AT MOST 1048576: true; the input reads as it did. -/
def aeadLimitUptoRow : OpenClaim := { program := "ytemjinkdfjoicaa", sum := "ffedd2ae86147e06936cbbb79aeaadcbc80dd35fe41e54bfafe4449acb16f4e0", func := "domino/dominolaw07.AeadLimit", spec := "aeadLimit", inPlace := ["math/bits.Add64"], unfollowed := true, recurses := true, apart := false, narrowed := true }
def AeadLimitUptoSaid : Prop := aeadLimitUptoRow.holds Try.pinned (OpenSpec.upto aeadLimitSpec)

/-- 'dominolaw07.AeadStream', WHERE WHAT IT READS IS OF BULK AT MOST 1048576: true; the input reads as it did. -/
def aeadStreamUptoRow : OpenClaim := { program := "ytemjinkdfjoicaa", sum := "ffedd2ae86147e06936cbbb79aeaadcbc80dd35fe41e54bfafe4449acb16f4e0", func := "domino/dominolaw07.AeadStream", spec := "aeadStream", inPlace := ["math/bits.Add64"], unfollowed := true, recurses := true, apart := false, narrowed := true }
def AeadStreamUptoSaid : Prop := aeadStreamUptoRow.holds Try.pinned (OpenSpec.upto aeadStreamSpec)

/-- 'dominolaw07.AeadLengths', WHERE WHAT IT READS IS OF BULK AT MOST 1048576: true; the input reads as it did. -/
def aeadLengthsUptoRow : OpenClaim := { program := "ytemjinkdfjoicaa", sum := "ffedd2ae86147e06936cbbb79aeaadcbc80dd35fe41e54bfafe4449acb16f4e0", func := "domino/dominolaw07.AeadLengths", spec := "aeadLengths", inPlace := ["math/bits.Add64"], unfollowed := true, recurses := true, apart := false, narrowed := true }
def AeadLengthsUptoSaid : Prop := aeadLengthsUptoRow.holds Try.pinned (OpenSpec.upto aeadLengthsSpec)

/-- 'dominolaw07.AeadShort', WHERE WHAT IT READS IS OF BULK AT MOST 1048576: true; the input reads as it did. -/
def aeadShortUptoRow : OpenClaim := { program := "ytemjinkdfjoicaa", sum := "ffedd2ae86147e06936cbbb79aeaadcbc80dd35fe41e54bfafe4449acb16f4e0", func := "domino/dominolaw07.AeadShort", spec := "aeadShort", inPlace := ["math/bits.Add64"], unfollowed := true, recurses := true, apart := false, narrowed := true }
def AeadShortUptoSaid : Prop := aeadShortUptoRow.holds Try.pinned (OpenSpec.upto aeadShortSpec)

end Rows
end Go.Proofs.Ytemjinkdfjoicaa
