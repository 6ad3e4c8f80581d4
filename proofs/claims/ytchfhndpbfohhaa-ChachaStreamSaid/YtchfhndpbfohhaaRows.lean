/-
  No cell of these rows narrows 'for every input' (looked for: loops, veiled, ifaces, maps, wideKeys, modest, calm, conditions, laid).
  DERIVED. THE GIVEN ROWS OF THIS SEAT. 11 by the template 'for every input the law returns true; each argument reads behind the call as it read before'; 0 by the template 'total and deterministic' (their statements: YtchfhndpbfohhaaTotals.lean).
  GIVEN WITH THE SEED: the statements are not yours to turn. If you find one false, say at which input.
  Laid BY PROGRAM, IN A SANDBOX (cutbox-rows.mjs): the forced cells as the released guide's own fill.sh prints them over the translation fa6cb05da072567e… (all of the seat's roots in one cut). By AI agents, Wed Nov 11 2026. No macro, syntax, notation, axiom, sorry.
-/
import Derived.Test.YtchfhndpbfohhaaChecked
import GoSem.Claim
import GoSem.ClaimJoined
import GoSem.ClaimMapViews
import Derived.JoinedTies
import Derived.KernelRfl
namespace Go.Proofs.Ytchfhndpbfohhaa
/- THE CELL 'sum', in the pinned program and in every row, IS THE sha256 OF THE DUMP (.gsa) THAT YtchfhndpbfohhaaProg.lean LOADS. Nothing in Lean hashes anything: it is a label: what it is worth is what the hold of that sum in a sandbox is worth. -/
noncomputable def Try.pinned : Pinned := { name := "ytchfhndpbfohhaa", sum := "fa6cb05da072567ef48ee947d58363bb760e117e827d0e983759dd2c0c91418e", checked := Try.checked }
namespace Rows
def none {H : Type} : Left H := { results := [], args := [] }

/-- 'dominolaw01.CtPicks': WHATEVER THE INPUT: true; the input reads as it did. -/
def ctPicksSpec : ChangeSpec := { name := "ctPicks", fn := fun _ => fun
  | [d] => { results := [.lit (.bool true)], args := [d] }
  | _ => none }
def ctPicksRow : OpenClaim := { program := "ytchfhndpbfohhaa", sum := "fa6cb05da072567ef48ee947d58363bb760e117e827d0e983759dd2c0c91418e", func := "domino/dominolaw01.CtPicks", spec := "ctPicks", apart := false }
def CtPicksSaid : Prop := ctPicksRow.holds Try.pinned (OpenSpec.ofChange ctPicksSpec)

/-- ITS FALSE NEIGHBOUR: 'it returns false'. Refute it at one input. -/
def ctPicksWrong : ChangeSpec := { name := "ctPicks", fn := fun _ => fun
  | [d] => { results := [.lit (.bool false)], args := [d] }
  | _ => none }
def CtPicksWrongFalsely : Prop := ctPicksRow.holds Try.pinned (OpenSpec.ofChange ctPicksWrong)

/-- 'dominolaw01.CtOrder': WHATEVER THE INPUT: true; the input reads as it did. -/
def ctOrderSpec : ChangeSpec := { name := "ctOrder", fn := fun _ => fun
  | [d1, d2, d3] => { results := [.lit (.bool true)], args := [d1, d2, d3] }
  | _ => none }
def ctOrderRow : OpenClaim := { program := "ytchfhndpbfohhaa", sum := "fa6cb05da072567ef48ee947d58363bb760e117e827d0e983759dd2c0c91418e", func := "domino/dominolaw01.CtOrder", spec := "ctOrder", apart := false }
def CtOrderSaid : Prop := ctOrderRow.holds Try.pinned (OpenSpec.ofChange ctOrderSpec)

/-- ITS FALSE NEIGHBOUR: 'it returns false'. Refute it at one input. -/
def ctOrderWrong : ChangeSpec := { name := "ctOrder", fn := fun _ => fun
  | [d1, d2, d3] => { results := [.lit (.bool false)], args := [d1, d2, d3] }
  | _ => none }
def CtOrderWrongFalsely : Prop := ctOrderRow.holds Try.pinned (OpenSpec.ofChange ctOrderWrong)

/-- 'dominolaw01.CtSigned': WHATEVER THE INPUT: true; the input reads as it did. -/
def ctSignedSpec : ChangeSpec := { name := "ctSigned", fn := fun _ => fun
  | [d1, d2] => { results := [.lit (.bool true)], args := [d1, d2] }
  | _ => none }
def ctSignedRow : OpenClaim := { program := "ytchfhndpbfohhaa", sum := "fa6cb05da072567ef48ee947d58363bb760e117e827d0e983759dd2c0c91418e", func := "domino/dominolaw01.CtSigned", spec := "ctSigned", apart := false }
def CtSignedSaid : Prop := ctSignedRow.holds Try.pinned (OpenSpec.ofChange ctSignedSpec)

/-- ITS FALSE NEIGHBOUR: 'it returns false'. Refute it at one input. -/
def ctSignedWrong : ChangeSpec := { name := "ctSigned", fn := fun _ => fun
  | [d1, d2] => { results := [.lit (.bool false)], args := [d1, d2] }
  | _ => none }
def CtSignedWrongFalsely : Prop := ctSignedRow.holds Try.pinned (OpenSpec.ofChange ctSignedWrong)

/-- 'dominolaw01.CtNumbers': WHATEVER THE INPUT: true; the input reads as it did. -/
def ctNumbersSpec : ChangeSpec := { name := "ctNumbers", fn := fun _ => fun
  | [d1, d2, d3, d4, d5] => { results := [.lit (.bool true)], args := [d1, d2, d3, d4, d5] }
  | _ => none }
def ctNumbersRow : OpenClaim := { program := "ytchfhndpbfohhaa", sum := "fa6cb05da072567ef48ee947d58363bb760e117e827d0e983759dd2c0c91418e", func := "domino/dominolaw01.CtNumbers", spec := "ctNumbers", apart := false }
def CtNumbersSaid : Prop := ctNumbersRow.holds Try.pinned (OpenSpec.ofChange ctNumbersSpec)

/-- ITS FALSE NEIGHBOUR: 'it returns false'. Refute it at one input. -/
def ctNumbersWrong : ChangeSpec := { name := "ctNumbers", fn := fun _ => fun
  | [d1, d2, d3, d4, d5] => { results := [.lit (.bool false)], args := [d1, d2, d3, d4, d5] }
  | _ => none }
def CtNumbersWrongFalsely : Prop := ctNumbersRow.holds Try.pinned (OpenSpec.ofChange ctNumbersWrong)

/-- 'dominolaw01.CtOneByte': WHATEVER THE INPUT: true; the input reads as it did. -/
def ctOneByteSpec : ChangeSpec := { name := "ctOneByte", fn := fun _ => fun
  | [d1, d2, d3, d4] => { results := [.lit (.bool true)], args := [d1, d2, d3, d4] }
  | _ => none }
def ctOneByteRow : OpenClaim := { program := "ytchfhndpbfohhaa", sum := "fa6cb05da072567ef48ee947d58363bb760e117e827d0e983759dd2c0c91418e", func := "domino/dominolaw01.CtOneByte", spec := "ctOneByte", apart := false }
def CtOneByteSaid : Prop := ctOneByteRow.holds Try.pinned (OpenSpec.ofChange ctOneByteSpec)

/-- ITS FALSE NEIGHBOUR: 'it returns false'. Refute it at one input. -/
def ctOneByteWrong : ChangeSpec := { name := "ctOneByte", fn := fun _ => fun
  | [d1, d2, d3, d4] => { results := [.lit (.bool false)], args := [d1, d2, d3, d4] }
  | _ => none }
def CtOneByteWrongFalsely : Prop := ctOneByteRow.holds Try.pinned (OpenSpec.ofChange ctOneByteWrong)

/-- 'dominolaw01.CtBytes': WHATEVER THE INPUT: true; the input reads as it did. -/
def ctBytesSpec : ChangeSpec := { name := "ctBytes", fn := fun _ => fun
  | [d1, d2, d3] => { results := [.lit (.bool true)], args := [d1, d2, d3] }
  | _ => none }
def ctBytesRow : OpenClaim := { program := "ytchfhndpbfohhaa", sum := "fa6cb05da072567ef48ee947d58363bb760e117e827d0e983759dd2c0c91418e", func := "domino/dominolaw01.CtBytes", spec := "ctBytes", unfollowed := true, recurses := true, apart := false }
def CtBytesSaid : Prop := ctBytesRow.holds Try.pinned (OpenSpec.ofChange ctBytesSpec)

/-- ITS FALSE NEIGHBOUR: 'it returns false'. Refute it at one input. -/
def ctBytesWrong : ChangeSpec := { name := "ctBytes", fn := fun _ => fun
  | [d1, d2, d3] => { results := [.lit (.bool false)], args := [d1, d2, d3] }
  | _ => none }
def CtBytesWrongFalsely : Prop := ctBytesRow.holds Try.pinned (OpenSpec.ofChange ctBytesWrong)

/-- 'dominolaw05.ChachaQuarterBack': WHATEVER THE INPUT: true; the input reads as it did. -/
def chachaQuarterBackSpec : ChangeSpec := { name := "chachaQuarterBack", fn := fun _ => fun
  | [d] => { results := [.lit (.bool true)], args := [d] }
  | _ => none }
def chachaQuarterBackRow : OpenClaim := { program := "ytchfhndpbfohhaa", sum := "fa6cb05da072567ef48ee947d58363bb760e117e827d0e983759dd2c0c91418e", func := "domino/dominolaw05.ChachaQuarterBack", spec := "chachaQuarterBack", unfollowed := true, recurses := true, apart := false }
def ChachaQuarterBackSaid : Prop := chachaQuarterBackRow.holds Try.pinned (OpenSpec.ofChange chachaQuarterBackSpec)

/-- ITS FALSE NEIGHBOUR: 'it returns false'. Refute it at one input. -/
def chachaQuarterBackWrong : ChangeSpec := { name := "chachaQuarterBack", fn := fun _ => fun
  | [d] => { results := [.lit (.bool false)], args := [d] }
  | _ => none }
def ChachaQuarterBackWrongFalsely : Prop := chachaQuarterBackRow.holds Try.pinned (OpenSpec.ofChange chachaQuarterBackWrong)

/-- 'dominolaw05.ChachaBlocks': WHATEVER THE INPUT: true; the input reads as it did. -/
def chachaBlocksSpec : ChangeSpec := { name := "chachaBlocks", fn := fun _ => fun
  | [d1, d2, d3, d4, d5] => { results := [.lit (.bool true)], args := [d1, d2, d3, d4, d5] }
  | _ => none }
def chachaBlocksRow : OpenClaim := { program := "ytchfhndpbfohhaa", sum := "fa6cb05da072567ef48ee947d58363bb760e117e827d0e983759dd2c0c91418e", func := "domino/dominolaw05.ChachaBlocks", spec := "chachaBlocks", unfollowed := true, recurses := true, apart := false }
def ChachaBlocksSaid : Prop := chachaBlocksRow.holds Try.pinned (OpenSpec.ofChange chachaBlocksSpec)

/-- ITS FALSE NEIGHBOUR: 'it returns false'. Refute it at one input. -/
def chachaBlocksWrong : ChangeSpec := { name := "chachaBlocks", fn := fun _ => fun
  | [d1, d2, d3, d4, d5] => { results := [.lit (.bool false)], args := [d1, d2, d3, d4, d5] }
  | _ => none }
def ChachaBlocksWrongFalsely : Prop := chachaBlocksRow.holds Try.pinned (OpenSpec.ofChange chachaBlocksWrong)

/-- 'dominolaw05.ChachaXors': WHATEVER THE INPUT: true; the input reads as it did. -/
def chachaXorsSpec : ChangeSpec := { name := "chachaXors", fn := fun _ => fun
  | [d1, d2, d3, d4] => { results := [.lit (.bool true)], args := [d1, d2, d3, d4] }
  | _ => none }
def chachaXorsRow : OpenClaim := { program := "ytchfhndpbfohhaa", sum := "fa6cb05da072567ef48ee947d58363bb760e117e827d0e983759dd2c0c91418e", func := "domino/dominolaw05.ChachaXors", spec := "chachaXors", unfollowed := true, recurses := true, apart := false }
def ChachaXorsSaid : Prop := chachaXorsRow.holds Try.pinned (OpenSpec.ofChange chachaXorsSpec)

/-- ITS FALSE NEIGHBOUR: 'it returns false'. Refute it at one input. -/
def chachaXorsWrong : ChangeSpec := { name := "chachaXors", fn := fun _ => fun
  | [d1, d2, d3, d4] => { results := [.lit (.bool false)], args := [d1, d2, d3, d4] }
  | _ => none }
def ChachaXorsWrongFalsely : Prop := chachaXorsRow.holds Try.pinned (OpenSpec.ofChange chachaXorsWrong)

/-- 'dominolaw05.ChachaBack': WHATEVER THE INPUT: true; the input reads as it did. -/
def chachaBackSpec : ChangeSpec := { name := "chachaBack", fn := fun _ => fun
  | [d1, d2, d3, d4, d5] => { results := [.lit (.bool true)], args := [d1, d2, d3, d4, d5] }
  | _ => none }
def chachaBackRow : OpenClaim := { program := "ytchfhndpbfohhaa", sum := "fa6cb05da072567ef48ee947d58363bb760e117e827d0e983759dd2c0c91418e", func := "domino/dominolaw05.ChachaBack", spec := "chachaBack", unfollowed := true, recurses := true, apart := false }
def ChachaBackSaid : Prop := chachaBackRow.holds Try.pinned (OpenSpec.ofChange chachaBackSpec)

/-- ITS FALSE NEIGHBOUR: 'it returns false'. Refute it at one input. -/
def chachaBackWrong : ChangeSpec := { name := "chachaBack", fn := fun _ => fun
  | [d1, d2, d3, d4, d5] => { results := [.lit (.bool false)], args := [d1, d2, d3, d4, d5] }
  | _ => none }
def ChachaBackWrongFalsely : Prop := chachaBackRow.holds Try.pinned (OpenSpec.ofChange chachaBackWrong)

/-- 'dominolaw05.ChachaStream': WHATEVER THE INPUT: true; the input reads as it did. -/
def chachaStreamSpec : ChangeSpec := { name := "chachaStream", fn := fun _ => fun
  | [d1, d2, d3, d4] => { results := [.lit (.bool true)], args := [d1, d2, d3, d4] }
  | _ => none }
def chachaStreamRow : OpenClaim := { program := "ytchfhndpbfohhaa", sum := "fa6cb05da072567ef48ee947d58363bb760e117e827d0e983759dd2c0c91418e", func := "domino/dominolaw05.ChachaStream", spec := "chachaStream", unfollowed := true, recurses := true, apart := false }
def ChachaStreamSaid : Prop := chachaStreamRow.holds Try.pinned (OpenSpec.ofChange chachaStreamSpec)

/-- ITS FALSE NEIGHBOUR: 'it returns false'. Refute it at one input. -/
def chachaStreamWrong : ChangeSpec := { name := "chachaStream", fn := fun _ => fun
  | [d1, d2, d3, d4] => { results := [.lit (.bool false)], args := [d1, d2, d3, d4] }
  | _ => none }
def ChachaStreamWrongFalsely : Prop := chachaStreamRow.holds Try.pinned (OpenSpec.ofChange chachaStreamWrong)

/- THE SECOND FORM. 'bulk': how many values and letters a reading holds, each counted each time it is reached (what is shared counts as often as it is met; a slice's spare places count too). A statement '..UptoSaid' is the law's where the arguments, and the package variables that the reading takes, are together of bulk at most 1048576: NARROWER than '..Said'. Prove '..Said' where nothing that the law and all that it calls make is longer than what came in: it says more and counts as full. Else prove '..UptoSaid'. A law counts once. -/
mutual
def uptoBulk {H : Type} : DataW H → Nat
  | .lit (.string bytes) => bytes.length + 1
  | .lit _ => 1
  | .nil => 1
  | .ptr d => uptoBulk d + 1
  | .slice elems spare => uptoBulkAll elems + uptoBulkAll spare + 1
  | .agg parts => uptoBulkAll parts + 1
  | .iface _ d => uptoBulk d + 1
  | .map entries => uptoBulkEntries entries + 1
  | .held _ => 1
def uptoBulkAll {H : Type} : List (DataW H) → Nat
  | [] => 0
  | d :: r => uptoBulk d + uptoBulkAll r
def uptoBulkEntries {H : Type} : List (Lit × DataW H) → Nat
  | [] => 0
  | x :: r => uptoBulkEntry x + uptoBulkEntries r
def uptoBulkEntry {H : Type} : Lit × DataW H → Nat
  | (.string bytes, d) => bytes.length + uptoBulk d + 1
  | (_, d) => uptoBulk d + 1
 end
def uptoSmall : (H : Type) → List (DataW H) → Bool := fun _ ds => decide (uptoBulkAll ds ≤ 1048576)
def OpenSpec.upto (s : _root_.Go.ChangeSpec) : _root_.Go.OpenSpec := { _root_.Go.OpenSpec.ofChange s with cond := some uptoSmall }

/-- 'dominolaw01.CtPicks', WHERE WHAT IT READS IS OF BULK AT MOST 1048576: true; the input reads as it did. -/
def ctPicksUptoRow : OpenClaim := { program := "ytchfhndpbfohhaa", sum := "fa6cb05da072567ef48ee947d58363bb760e117e827d0e983759dd2c0c91418e", func := "domino/dominolaw01.CtPicks", spec := "ctPicks", apart := false, narrowed := true }
def CtPicksUptoSaid : Prop := ctPicksUptoRow.holds Try.pinned (OpenSpec.upto ctPicksSpec)

/-- 'dominolaw01.CtOrder', WHERE WHAT IT READS IS OF BULK AT MOST 1048576: true; the input reads as it did. -/
def ctOrderUptoRow : OpenClaim := { program := "ytchfhndpbfohhaa", sum := "fa6cb05da072567ef48ee947d58363bb760e117e827d0e983759dd2c0c91418e", func := "domino/dominolaw01.CtOrder", spec := "ctOrder", apart := false, narrowed := true }
def CtOrderUptoSaid : Prop := ctOrderUptoRow.holds Try.pinned (OpenSpec.upto ctOrderSpec)

/-- 'dominolaw01.CtSigned', WHERE WHAT IT READS IS OF BULK AT MOST 1048576: true; the input reads as it did. -/
def ctSignedUptoRow : OpenClaim := { program := "ytchfhndpbfohhaa", sum := "fa6cb05da072567ef48ee947d58363bb760e117e827d0e983759dd2c0c91418e", func := "domino/dominolaw01.CtSigned", spec := "ctSigned", apart := false, narrowed := true }
def CtSignedUptoSaid : Prop := ctSignedUptoRow.holds Try.pinned (OpenSpec.upto ctSignedSpec)

/-- 'dominolaw01.CtNumbers', WHERE WHAT IT READS IS OF BULK AT MOST 1048576: true; the input reads as it did. -/
def ctNumbersUptoRow : OpenClaim := { program := "ytchfhndpbfohhaa", sum := "fa6cb05da072567ef48ee947d58363bb760e117e827d0e983759dd2c0c91418e", func := "domino/dominolaw01.CtNumbers", spec := "ctNumbers", apart := false, narrowed := true }
def CtNumbersUptoSaid : Prop := ctNumbersUptoRow.holds Try.pinned (OpenSpec.upto ctNumbersSpec)

/-- 'dominolaw01.CtOneByte', WHERE WHAT IT READS IS OF BULK AT MOST 1048576: true; the input reads as it did. -/
def ctOneByteUptoRow : OpenClaim := { program := "ytchfhndpbfohhaa", sum := "fa6cb05da072567ef48ee947d58363bb760e117e827d0e983759dd2c0c91418e", func := "domino/dominolaw01.CtOneByte", spec := "ctOneByte", apart := false, narrowed := true }
def CtOneByteUptoSaid : Prop := ctOneByteUptoRow.holds Try.pinned (OpenSpec.upto ctOneByteSpec)

/-- 'dominolaw01.CtBytes', WHERE WHAT IT READS IS OF BULK AT MOST 1048576: true; the input reads as it did. -/
def ctBytesUptoRow : OpenClaim := { program := "ytchfhndpbfohhaa", sum := "fa6cb05da072567ef48ee947d58363bb760e117e827d0e983759dd2c0c91418e", func := "domino/dominolaw01.CtBytes", spec := "ctBytes", unfollowed := true, recurses := true, apart := false, narrowed := true }
def CtBytesUptoSaid : Prop := ctBytesUptoRow.holds Try.pinned (OpenSpec.upto ctBytesSpec)

/-- 'dominolaw05.ChachaQuarterBack', WHERE WHAT IT READS IS OF BULK AT MOST 1048576: true; the input reads as it did. -/
def chachaQuarterBackUptoRow : OpenClaim := { program := "ytchfhndpbfohhaa", sum := "fa6cb05da072567ef48ee947d58363bb760e117e827d0e983759dd2c0c91418e", func := "domino/dominolaw05.ChachaQuarterBack", spec := "chachaQuarterBack", unfollowed := true, recurses := true, apart := false, narrowed := true }
def ChachaQuarterBackUptoSaid : Prop := chachaQuarterBackUptoRow.holds Try.pinned (OpenSpec.upto chachaQuarterBackSpec)

/-- 'dominolaw05.ChachaBlocks', WHERE WHAT IT READS IS OF BULK AT MOST 1048576: true; the input reads as it did. -/
def chachaBlocksUptoRow : OpenClaim := { program := "ytchfhndpbfohhaa", sum := "fa6cb05da072567ef48ee947d58363bb760e117e827d0e983759dd2c0c91418e", func := "domino/dominolaw05.ChachaBlocks", spec := "chachaBlocks", unfollowed := true, recurses := true, apart := false, narrowed := true }
def ChachaBlocksUptoSaid : Prop := chachaBlocksUptoRow.holds Try.pinned (OpenSpec.upto chachaBlocksSpec)

/-- 'dominolaw05.ChachaXors', WHERE WHAT IT READS IS OF BULK AT MOST 1048576: true; the input reads as it did. -/
def chachaXorsUptoRow : OpenClaim := { program := "ytchfhndpbfohhaa", sum := "fa6cb05da072567ef48ee947d58363bb760e117e827d0e983759dd2c0c91418e", func := "domino/dominolaw05.ChachaXors", spec := "chachaXors", unfollowed := true, recurses := true, apart := false, narrowed := true }
def ChachaXorsUptoSaid : Prop := chachaXorsUptoRow.holds Try.pinned (OpenSpec.upto chachaXorsSpec)

/-- 'dominolaw05.ChachaBack', WHERE WHAT IT READS IS OF BULK AT MOST 1048576: true; the input reads as it did. -/
def chachaBackUptoRow : OpenClaim := { program := "ytchfhndpbfohhaa", sum := "fa6cb05da072567ef48ee947d58363bb760e117e827d0e983759dd2c0c91418e", func := "domino/dominolaw05.ChachaBack", spec := "chachaBack", unfollowed := true, recurses := true, apart := false, narrowed := true }
def ChachaBackUptoSaid : Prop := chachaBackUptoRow.holds Try.pinned (OpenSpec.upto chachaBackSpec)

/-- 'dominolaw05.ChachaStream', WHERE WHAT IT READS IS OF BULK AT MOST 1048576: true; the input reads as it did. -/
def chachaStreamUptoRow : OpenClaim := { program := "ytchfhndpbfohhaa", sum := "fa6cb05da072567ef48ee947d58363bb760e117e827d0e983759dd2c0c91418e", func := "domino/dominolaw05.ChachaStream", spec := "chachaStream", unfollowed := true, recurses := true, apart := false, narrowed := true }
def ChachaStreamUptoSaid : Prop := chachaStreamUptoRow.holds Try.pinned (OpenSpec.upto chachaStreamSpec)

end Rows
end Go.Proofs.Ytchfhndpbfohhaa
