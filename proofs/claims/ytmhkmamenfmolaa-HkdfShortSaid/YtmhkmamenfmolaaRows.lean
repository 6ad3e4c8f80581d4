/-
  No cell of these rows narrows 'for every input' (looked for: loops, veiled, ifaces, maps, wideKeys, modest, calm, conditions, laid).
  DERIVED. THE GIVEN ROWS OF THIS SEAT. 12 by the template 'for every input the law returns true; each argument reads behind the call as it read before'; 0 by the template 'total and deterministic' (their statements: YtmhkmamenfmolaaTotals.lean).
  GIVEN WITH THE SEED: the statements are not yours to turn. If you find one false, say at which input.
  Laid BY PROGRAM, IN A SANDBOX (cutbox-rows.mjs): the forced cells as the released guide's own fill.sh prints them over the translation a539ba8000c42f1a… (all of the seat's roots in one cut). By AI agents, Wed Nov 11 2026. No macro, syntax, notation, axiom, sorry.
-/
import Derived.Test.YtmhkmamenfmolaaChecked
import GoSem.Claim
import GoSem.ClaimJoined
import GoSem.ClaimMapViews
import Derived.JoinedTies
import Derived.KernelRfl
namespace Go.Proofs.Ytmhkmamenfmolaa
/- THE CELL 'sum', in the pinned program and in every row, IS THE sha256 OF THE DUMP (.gsa) THAT YtmhkmamenfmolaaProg.lean LOADS. Nothing in Lean hashes anything: it is a label: what it is worth is what the hold of that sum in a sandbox is worth. -/
noncomputable def Try.pinned : Pinned := { name := "ytmhkmamenfmolaa", sum := "a539ba8000c42f1aee40acf852c79513a8087ab948c9ad652689f0b24ff44e76", checked := Try.checked }
namespace Rows
def none {H : Type} : Left H := { results := [], args := [] }

/-- 'dominolaw02.ShaSums': WHATEVER THE INPUT: true; the input reads as it did. -/
def shaSumsSpec : ChangeSpec := { name := "shaSums", fn := fun _ => fun
  | [d] => { results := [.lit (.bool true)], args := [d] }
  | _ => none }
def shaSumsRow : OpenClaim := { program := "ytmhkmamenfmolaa", sum := "a539ba8000c42f1aee40acf852c79513a8087ab948c9ad652689f0b24ff44e76", func := "domino/dominolaw02.ShaSums", spec := "shaSums", unfollowed := true, recurses := true, apart := false }
def ShaSumsSaid : Prop := shaSumsRow.holds Try.pinned (OpenSpec.ofChange shaSumsSpec)

/-- ITS FALSE NEIGHBOUR: 'it returns false'. Refute it at one input. -/
def shaSumsWrong : ChangeSpec := { name := "shaSums", fn := fun _ => fun
  | [d] => { results := [.lit (.bool false)], args := [d] }
  | _ => none }
def ShaSumsWrongFalsely : Prop := shaSumsRow.holds Try.pinned (OpenSpec.ofChange shaSumsWrong)

/-- 'dominolaw02.ShaWords': WHATEVER THE INPUT: true; the input reads as it did. -/
def shaWordsSpec : ChangeSpec := { name := "shaWords", fn := fun _ => fun
  | [d] => { results := [.lit (.bool true)], args := [d] }
  | _ => none }
def shaWordsRow : OpenClaim := { program := "ytmhkmamenfmolaa", sum := "a539ba8000c42f1aee40acf852c79513a8087ab948c9ad652689f0b24ff44e76", func := "domino/dominolaw02.ShaWords", spec := "shaWords", unfollowed := true, recurses := true, apart := false }
def ShaWordsSaid : Prop := shaWordsRow.holds Try.pinned (OpenSpec.ofChange shaWordsSpec)

/-- ITS FALSE NEIGHBOUR: 'it returns false'. Refute it at one input. -/
def shaWordsWrong : ChangeSpec := { name := "shaWords", fn := fun _ => fun
  | [d] => { results := [.lit (.bool false)], args := [d] }
  | _ => none }
def ShaWordsWrongFalsely : Prop := shaWordsRow.holds Try.pinned (OpenSpec.ofChange shaWordsWrong)

/-- 'dominolaw02.ShaEdges': WHATEVER THE INPUT: true; the input reads as it did. -/
def shaEdgesSpec : ChangeSpec := { name := "shaEdges", fn := fun _ => fun
  | [d1, d2] => { results := [.lit (.bool true)], args := [d1, d2] }
  | _ => none }
def shaEdgesRow : OpenClaim := { program := "ytmhkmamenfmolaa", sum := "a539ba8000c42f1aee40acf852c79513a8087ab948c9ad652689f0b24ff44e76", func := "domino/dominolaw02.ShaEdges", spec := "shaEdges", unfollowed := true, recurses := true, apart := false }
def ShaEdgesSaid : Prop := shaEdgesRow.holds Try.pinned (OpenSpec.ofChange shaEdgesSpec)

/-- ITS FALSE NEIGHBOUR: 'it returns false'. Refute it at one input. -/
def shaEdgesWrong : ChangeSpec := { name := "shaEdges", fn := fun _ => fun
  | [d1, d2] => { results := [.lit (.bool false)], args := [d1, d2] }
  | _ => none }
def ShaEdgesWrongFalsely : Prop := shaEdgesRow.holds Try.pinned (OpenSpec.ofChange shaEdgesWrong)

/-- 'dominolaw02.ShaParts': WHATEVER THE INPUT: true; the input reads as it did. -/
def shaPartsSpec : ChangeSpec := { name := "shaParts", fn := fun _ => fun
  | [d1, d2] => { results := [.lit (.bool true)], args := [d1, d2] }
  | _ => none }
def shaPartsRow : OpenClaim := { program := "ytmhkmamenfmolaa", sum := "a539ba8000c42f1aee40acf852c79513a8087ab948c9ad652689f0b24ff44e76", func := "domino/dominolaw02.ShaParts", spec := "shaParts", unfollowed := true, recurses := true, apart := false }
def ShaPartsSaid : Prop := shaPartsRow.holds Try.pinned (OpenSpec.ofChange shaPartsSpec)

/-- ITS FALSE NEIGHBOUR: 'it returns false'. Refute it at one input. -/
def shaPartsWrong : ChangeSpec := { name := "shaParts", fn := fun _ => fun
  | [d1, d2] => { results := [.lit (.bool false)], args := [d1, d2] }
  | _ => none }
def ShaPartsWrongFalsely : Prop := shaPartsRow.holds Try.pinned (OpenSpec.ofChange shaPartsWrong)

/-- 'dominolaw02.ShaPads': WHATEVER THE INPUT: true; the input reads as it did. -/
def shaPadsSpec : ChangeSpec := { name := "shaPads", fn := fun _ => fun
  | [d] => { results := [.lit (.bool true)], args := [d] }
  | _ => none }
def shaPadsRow : OpenClaim := { program := "ytmhkmamenfmolaa", sum := "a539ba8000c42f1aee40acf852c79513a8087ab948c9ad652689f0b24ff44e76", func := "domino/dominolaw02.ShaPads", spec := "shaPads", unfollowed := true, recurses := true, apart := false }
def ShaPadsSaid : Prop := shaPadsRow.holds Try.pinned (OpenSpec.ofChange shaPadsSpec)

/-- ITS FALSE NEIGHBOUR: 'it returns false'. Refute it at one input. -/
def shaPadsWrong : ChangeSpec := { name := "shaPads", fn := fun _ => fun
  | [d] => { results := [.lit (.bool false)], args := [d] }
  | _ => none }
def ShaPadsWrongFalsely : Prop := shaPadsRow.holds Try.pinned (OpenSpec.ofChange shaPadsWrong)

/-- 'dominolaw03.MacTags': WHATEVER THE INPUT: true; the input reads as it did. -/
def macTagsSpec : ChangeSpec := { name := "macTags", fn := fun _ => fun
  | [d1, d2] => { results := [.lit (.bool true)], args := [d1, d2] }
  | _ => none }
def macTagsRow : OpenClaim := { program := "ytmhkmamenfmolaa", sum := "a539ba8000c42f1aee40acf852c79513a8087ab948c9ad652689f0b24ff44e76", func := "domino/dominolaw03.MacTags", spec := "macTags", unfollowed := true, recurses := true, apart := false }
def MacTagsSaid : Prop := macTagsRow.holds Try.pinned (OpenSpec.ofChange macTagsSpec)

/-- ITS FALSE NEIGHBOUR: 'it returns false'. Refute it at one input. -/
def macTagsWrong : ChangeSpec := { name := "macTags", fn := fun _ => fun
  | [d1, d2] => { results := [.lit (.bool false)], args := [d1, d2] }
  | _ => none }
def MacTagsWrongFalsely : Prop := macTagsRow.holds Try.pinned (OpenSpec.ofChange macTagsWrong)

/-- 'dominolaw03.MacLong': WHATEVER THE INPUT: true; the input reads as it did. -/
def macLongSpec : ChangeSpec := { name := "macLong", fn := fun _ => fun
  | [d1, d2, d3] => { results := [.lit (.bool true)], args := [d1, d2, d3] }
  | _ => none }
def macLongRow : OpenClaim := { program := "ytmhkmamenfmolaa", sum := "a539ba8000c42f1aee40acf852c79513a8087ab948c9ad652689f0b24ff44e76", func := "domino/dominolaw03.MacLong", spec := "macLong", unfollowed := true, recurses := true, apart := false }
def MacLongSaid : Prop := macLongRow.holds Try.pinned (OpenSpec.ofChange macLongSpec)

/-- ITS FALSE NEIGHBOUR: 'it returns false'. Refute it at one input. -/
def macLongWrong : ChangeSpec := { name := "macLong", fn := fun _ => fun
  | [d1, d2, d3] => { results := [.lit (.bool false)], args := [d1, d2, d3] }
  | _ => none }
def MacLongWrongFalsely : Prop := macLongRow.holds Try.pinned (OpenSpec.ofChange macLongWrong)

/-- 'dominolaw03.MacParts': WHATEVER THE INPUT: true; the input reads as it did. -/
def macPartsSpec : ChangeSpec := { name := "macParts", fn := fun _ => fun
  | [d1, d2, d3] => { results := [.lit (.bool true)], args := [d1, d2, d3] }
  | _ => none }
def macPartsRow : OpenClaim := { program := "ytmhkmamenfmolaa", sum := "a539ba8000c42f1aee40acf852c79513a8087ab948c9ad652689f0b24ff44e76", func := "domino/dominolaw03.MacParts", spec := "macParts", unfollowed := true, recurses := true, apart := false }
def MacPartsSaid : Prop := macPartsRow.holds Try.pinned (OpenSpec.ofChange macPartsSpec)

/-- ITS FALSE NEIGHBOUR: 'it returns false'. Refute it at one input. -/
def macPartsWrong : ChangeSpec := { name := "macParts", fn := fun _ => fun
  | [d1, d2, d3] => { results := [.lit (.bool false)], args := [d1, d2, d3] }
  | _ => none }
def MacPartsWrongFalsely : Prop := macPartsRow.holds Try.pinned (OpenSpec.ofChange macPartsWrong)

/-- 'dominolaw04.HkdfPieces': WHATEVER THE INPUT: true; the input reads as it did. -/
def hkdfPiecesSpec : ChangeSpec := { name := "hkdfPieces", fn := fun _ => fun
  | [d1, d2, d3] => { results := [.lit (.bool true)], args := [d1, d2, d3] }
  | _ => none }
def hkdfPiecesRow : OpenClaim := { program := "ytmhkmamenfmolaa", sum := "a539ba8000c42f1aee40acf852c79513a8087ab948c9ad652689f0b24ff44e76", func := "domino/dominolaw04.HkdfPieces", spec := "hkdfPieces", unfollowed := true, recurses := true, apart := false }
def HkdfPiecesSaid : Prop := hkdfPiecesRow.holds Try.pinned (OpenSpec.ofChange hkdfPiecesSpec)

/-- ITS FALSE NEIGHBOUR: 'it returns false'. Refute it at one input. -/
def hkdfPiecesWrong : ChangeSpec := { name := "hkdfPieces", fn := fun _ => fun
  | [d1, d2, d3] => { results := [.lit (.bool false)], args := [d1, d2, d3] }
  | _ => none }
def HkdfPiecesWrongFalsely : Prop := hkdfPiecesRow.holds Try.pinned (OpenSpec.ofChange hkdfPiecesWrong)

/-- 'dominolaw04.HkdfLimit': WHATEVER THE INPUT: true; the input reads as it did. -/
def hkdfLimitSpec : ChangeSpec := { name := "hkdfLimit", fn := fun _ => fun
  | [d] => { results := [.lit (.bool true)], args := [d] }
  | _ => none }
def hkdfLimitRow : OpenClaim := { program := "ytmhkmamenfmolaa", sum := "a539ba8000c42f1aee40acf852c79513a8087ab948c9ad652689f0b24ff44e76", func := "domino/dominolaw04.HkdfLimit", spec := "hkdfLimit", unfollowed := true, recurses := true, apart := false }
def HkdfLimitSaid : Prop := hkdfLimitRow.holds Try.pinned (OpenSpec.ofChange hkdfLimitSpec)

/-- ITS FALSE NEIGHBOUR: 'it returns false'. Refute it at one input. -/
def hkdfLimitWrong : ChangeSpec := { name := "hkdfLimit", fn := fun _ => fun
  | [d] => { results := [.lit (.bool false)], args := [d] }
  | _ => none }
def HkdfLimitWrongFalsely : Prop := hkdfLimitRow.holds Try.pinned (OpenSpec.ofChange hkdfLimitWrong)

/-- 'dominolaw04.HkdfKeys': WHATEVER THE INPUT: true; the input reads as it did. -/
def hkdfKeysSpec : ChangeSpec := { name := "hkdfKeys", fn := fun _ => fun
  | [d1, d2, d3, d4] => { results := [.lit (.bool true)], args := [d1, d2, d3, d4] }
  | _ => none }
def hkdfKeysRow : OpenClaim := { program := "ytmhkmamenfmolaa", sum := "a539ba8000c42f1aee40acf852c79513a8087ab948c9ad652689f0b24ff44e76", func := "domino/dominolaw04.HkdfKeys", spec := "hkdfKeys", unfollowed := true, recurses := true, apart := false }
def HkdfKeysSaid : Prop := hkdfKeysRow.holds Try.pinned (OpenSpec.ofChange hkdfKeysSpec)

/-- ITS FALSE NEIGHBOUR: 'it returns false'. Refute it at one input. -/
def hkdfKeysWrong : ChangeSpec := { name := "hkdfKeys", fn := fun _ => fun
  | [d1, d2, d3, d4] => { results := [.lit (.bool false)], args := [d1, d2, d3, d4] }
  | _ => none }
def HkdfKeysWrongFalsely : Prop := hkdfKeysRow.holds Try.pinned (OpenSpec.ofChange hkdfKeysWrong)

/-- 'dominolaw04.HkdfShort': WHATEVER THE INPUT: true; the input reads as it did. -/
def hkdfShortSpec : ChangeSpec := { name := "hkdfShort", fn := fun _ => fun
  | [d1, d2, d3, d4, d5] => { results := [.lit (.bool true)], args := [d1, d2, d3, d4, d5] }
  | _ => none }
def hkdfShortRow : OpenClaim := { program := "ytmhkmamenfmolaa", sum := "a539ba8000c42f1aee40acf852c79513a8087ab948c9ad652689f0b24ff44e76", func := "domino/dominolaw04.HkdfShort", spec := "hkdfShort", unfollowed := true, recurses := true, apart := false }
def HkdfShortSaid : Prop := hkdfShortRow.holds Try.pinned (OpenSpec.ofChange hkdfShortSpec)

/-- ITS FALSE NEIGHBOUR: 'it returns false'. Refute it at one input. -/
def hkdfShortWrong : ChangeSpec := { name := "hkdfShort", fn := fun _ => fun
  | [d1, d2, d3, d4, d5] => { results := [.lit (.bool false)], args := [d1, d2, d3, d4, d5] }
  | _ => none }
def HkdfShortWrongFalsely : Prop := hkdfShortRow.holds Try.pinned (OpenSpec.ofChange hkdfShortWrong)

/- THE SECOND FORM. 'bulk': how many values and letters a reading holds, each counted each time it is reached (what is shared counts as often as it is met; a slice's spare places count too). A statement '..UptoSaid' is the law's where the arguments, and the package variables that the reading takes, are together of bulk at most 1048576: NARROWER than '..Said'. Prove '..Said' where nothing that the law and all that it calls make is longer than what came in: it says more and counts as full. Else prove '..UptoSaid'. A law counts once. -/
mutual
def uptoBulk {H : Type} : DataW H → Nat
  | .lit (.string bytes) => bytes.length + 1
  | .lit _ => 1
  | .nil => 1
  | .ptr d => uptoBulk d + 1
  | .slice elems spare => uptoBulkAll elems + uptoBulkAll spare + 1
  | .agg parts => uptoBulkAll parts + 1
  | .iface _ d => uptoBulk d + 1
  | .map entries => uptoBulkEntries entries + 1
  | .held _ => 1
def uptoBulkAll {H : Type} : List (DataW H) → Nat
  | [] => 0
  | d :: r => uptoBulk d + uptoBulkAll r
def uptoBulkEntries {H : Type} : List (Lit × DataW H) → Nat
  | [] => 0
  | x :: r => uptoBulkEntry x + uptoBulkEntries r
def uptoBulkEntry {H : Type} : Lit × DataW H → Nat
  | (.string bytes, d) => bytes.length + uptoBulk d + 1
  | (_, d) => uptoBulk d + 1
 end
def uptoSmall : (H : Type) → List (DataW H) → Bool := fun _ ds => decide (uptoBulkAll ds ≤ 1048576)
def OpenSpec.upto (s : _root_.Go.ChangeSpec) : _root_.Go.OpenSpec := { _root_.Go.OpenSpec.ofChange s with cond := some uptoSmall }

/-- 'dominolaw02.ShaSums', WHERE WHAT IT READS IS OF BULK AT MOST 1048576: true; the input reads as it did. -/
def shaSumsUptoRow : OpenClaim := { program := "ytmhkmamenfmolaa", sum := "a539ba8000c42f1aee40acf852c79513a8087ab948c9ad652689f0b24ff44e76", func := "domino/dominolaw02.ShaSums", spec := "shaSums", unfollowed := true, recurses := true, apart := false, narrowed := true }
def ShaSumsUptoSaid : Prop := shaSumsUptoRow.holds Try.pinned (OpenSpec.upto shaSumsSpec)

/-- 'dominolaw02.ShaWords', WHERE WHAT IT READS IS OF BULK AT MOST 1048576: true; the input reads as it did. -/
def shaWordsUptoRow : OpenClaim := { program := "ytmhkmamenfmolaa", sum := "a539ba8000c42f1aee40acf852c79513a8087ab948c9ad652689f0b24ff44e76", func := "domino/dominolaw02.ShaWords", spec := "shaWords", unfollowed := true, recurses := true, apart := false, narrowed := true }
def ShaWordsUptoSaid : Prop := shaWordsUptoRow.holds Try.pinned (OpenSpec.upto shaWordsSpec)

/-- 'dominolaw02.ShaEdges', WHERE WHAT IT READS IS OF BULK AT MOST 1048576: true; the input reads as it did. -/
def shaEdgesUptoRow : OpenClaim := { program := "ytmhkmamenfmolaa", sum := "a539ba8000c42f1aee40acf852c79513a8087ab948c9ad652689f0b24ff44e76", func := "domino/dominolaw02.ShaEdges", spec := "shaEdges", unfollowed := true, recurses := true, apart := false, narrowed := true }
def ShaEdgesUptoSaid : Prop := shaEdgesUptoRow.holds Try.pinned (OpenSpec.upto shaEdgesSpec)

/-- 'dominolaw02.ShaParts', WHERE WHAT IT READS IS OF BULK AT MOST 1048576: true; the input reads as it did. -/
def shaPartsUptoRow : OpenClaim := { program := "ytmhkmamenfmolaa", sum := "a539ba8000c42f1aee40acf852c79513a8087ab948c9ad652689f0b24ff44e76", func := "domino/dominolaw02.ShaParts", spec := "shaParts", unfollowed := true, recurses := true, apart := false, narrowed := true }
def ShaPartsUptoSaid : Prop := shaPartsUptoRow.holds Try.pinned (OpenSpec.upto shaPartsSpec)

/-- 'dominolaw02.ShaPads', WHERE WHAT IT READS IS OF BULK AT MOST 1048576: true; the input reads as it did. -/
def shaPadsUptoRow : OpenClaim := { program := "ytmhkmamenfmolaa", sum := "a539ba8000c42f1aee40acf852c79513a8087ab948c9ad652689f0b24ff44e76", func := "domino/dominolaw02.ShaPads", spec := "shaPads", unfollowed := true, recurses := true, apart := false, narrowed := true }
def ShaPadsUptoSaid : Prop := shaPadsUptoRow.holds Try.pinned (OpenSpec.upto shaPadsSpec)

/-- 'dominolaw03.MacTags', WHERE WHAT IT READS IS OF BULK AT MOST 1048576: true; the input reads as it did. -/
def macTagsUptoRow : OpenClaim := { program := "ytmhkmamenfmolaa", sum := "a539ba8000c42f1aee40acf852c79513a8087ab948c9ad652689f0b24ff44e76", func := "domino/dominolaw03.MacTags", spec := "macTags", unfollowed := true, recurses := true, apart := false, narrowed := true }
def MacTagsUptoSaid : Prop := macTagsUptoRow.holds Try.pinned (OpenSpec.upto macTagsSpec)

/-- 'dominolaw03.MacLong', WHERE WHAT IT READS IS OF BULK AT MOST 1048576: true; the input reads as it did. -/
def macLongUptoRow : OpenClaim := { program := "ytmhkmamenfmolaa", sum := "a539ba8000c42f1aee40acf852c79513a8087ab948c9ad652689f0b24ff44e76", func := "domino/dominolaw03.MacLong", spec := "macLong", unfollowed := true, recurses := true, apart := false, narrowed := true }
def MacLongUptoSaid : Prop := macLongUptoRow.holds Try.pinned (OpenSpec.upto macLongSpec)

/-- 'dominolaw03.MacParts', WHERE WHAT IT READS IS OF BULK AT MOST 1048576: true; the input reads as it did. -/
def macPartsUptoRow : OpenClaim := { program := "ytmhkmamenfmolaa", sum := "a539ba8000c42f1aee40acf852c79513a8087ab948c9ad652689f0b24ff44e76", func := "domino/dominolaw03.MacParts", spec := "macParts", unfollowed := true, recurses := true, apart := false, narrowed := true }
def MacPartsUptoSaid : Prop := macPartsUptoRow.holds Try.pinned (OpenSpec.upto macPartsSpec)

/-- 'dominolaw04.HkdfPieces', WHERE WHAT IT READS IS OF BULK AT MOST 1048576: true; the input reads as it did. -/
def hkdfPiecesUptoRow : OpenClaim := { program := "ytmhkmamenfmolaa", sum := "a539ba8000c42f1aee40acf852c79513a8087ab948c9ad652689f0b24ff44e76", func := "domino/dominolaw04.HkdfPieces", spec := "hkdfPieces", unfollowed := true, recurses := true, apart := false, narrowed := true }
def HkdfPiecesUptoSaid : Prop := hkdfPiecesUptoRow.holds Try.pinned (OpenSpec.upto hkdfPiecesSpec)

/-- 'dominolaw04.HkdfLimit', WHERE WHAT IT READS IS OF BULK AT MOST 1048576: true; the input reads as it did. -/
def hkdfLimitUptoRow : OpenClaim := { program := "ytmhkmamenfmolaa", sum := "a539ba8000c42f1aee40acf852c79513a8087ab948c9ad652689f0b24ff44e76", func := "domino/dominolaw04.HkdfLimit", spec := "hkdfLimit", unfollowed := true, recurses := true, apart := false, narrowed := true }
def HkdfLimitUptoSaid : Prop := hkdfLimitUptoRow.holds Try.pinned (OpenSpec.upto hkdfLimitSpec)

/-- 'dominolaw04.HkdfKeys', WHERE WHAT IT READS IS OF BULK AT MOST 1048576: true; the input reads as it did. -/
def hkdfKeysUptoRow : OpenClaim := { program := "ytmhkmamenfmolaa", sum := "a539ba8000c42f1aee40acf852c79513a8087ab948c9ad652689f0b24ff44e76", func := "domino/dominolaw04.HkdfKeys", spec := "hkdfKeys", unfollowed := true, recurses := true, apart := false, narrowed := true }
def HkdfKeysUptoSaid : Prop := hkdfKeysUptoRow.holds Try.pinned (OpenSpec.upto hkdfKeysSpec)

/-- 'dominolaw04.HkdfShort', WHERE WHAT IT READS IS OF BULK AT MOST 1048576: true; the input reads as it did. -/
def hkdfShortUptoRow : OpenClaim := { program := "ytmhkmamenfmolaa", sum := "a539ba8000c42f1aee40acf852c79513a8087ab948c9ad652689f0b24ff44e76", func := "domino/dominolaw04.HkdfShort", spec := "hkdfShort", unfollowed := true, recurses := true, apart := false, narrowed := true }
def HkdfShortUptoSaid : Prop := hkdfShortUptoRow.holds Try.pinned (OpenSpec.upto hkdfShortSpec)

end Rows
end Go.Proofs.Ytmhkmamenfmolaa
