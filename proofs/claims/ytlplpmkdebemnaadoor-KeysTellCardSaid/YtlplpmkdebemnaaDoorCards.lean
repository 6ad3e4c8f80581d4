/-
  DERIVED. GIVEN WITH THE SEED: THE CARDS: each row of YtlplpmkdebemnaaDoorRows.lean that lists a variable, with what it lists TIED to the program's text (the seventh form; the later family's looks); each row that meets fmt, with fmt's text TOLD by the authors' own Lean function (tested against real Go, not proved from fmt's source: count such statements apart). THE CARD IS WHAT COUNTS. Prove the row's statement (the work); the ties are given (YtlplpmkdebemnaaDoorTie.lean); close each card by the builder's one call (the guide's Derived/Test/ToyasCard.lean, 'card_holds'). Laid BY PROGRAM, IN A SANDBOX (cutbox-door.mjs). By AI agents, Wed Nov 11 2026. No macro, syntax, notation, axiom, sorry.
-/
import Derived.Test.YtlplpmkdebemnaaDoorRows
import GoSem.ClaimSeven
namespace Go.Proofs.YtlplpmkdebemnaaDoor
namespace Rows

/-- THE TIED CARD OF 'dominolaw08.KeysApart'. -/
def keysApartCard : Claim7 := { stood := { row := keysApartRow, standIns := [], harness := (true, "745d9957e3eaf97fc0047b5a2a2331510765a18beea88e2b3c98e43898ca1a3b"), looks := false }, kinds := [], alts := [], laidByText := true, laidKinds := [.data, .data, .data], laidTests := true, laidLooks := .later }
def KeysApartCardSaid : Prop := Claim7.holds Tryd.pinned (.plain (OpenSpec.ofChange keysApartSpec)) keysApartCard

/-- THE TIED CARD OF 'dominolaw08.KeysMade'. -/
def keysMadeCard : Claim7 := { stood := { row := keysMadeRow, standIns := [], harness := (true, "745d9957e3eaf97fc0047b5a2a2331510765a18beea88e2b3c98e43898ca1a3b"), looks := false }, kinds := [], alts := [], laidByText := true, laidKinds := [.data, .data, .data], laidTests := true, laidLooks := .later }
def KeysMadeCardSaid : Prop := Claim7.holds Tryd.pinned (.plain (OpenSpec.ofChange keysMadeSpec)) keysMadeCard

/-- THE TIED CARD OF 'dominolaw08.KeysAttempts'. -/
def keysAttemptsCard : Claim7 := { stood := { row := keysAttemptsRow, standIns := [], harness := (true, "745d9957e3eaf97fc0047b5a2a2331510765a18beea88e2b3c98e43898ca1a3b"), looks := false }, kinds := [], alts := [], laidByText := true, laidKinds := [.data, .data, .data], laidTests := true, laidLooks := .later }
def KeysAttemptsCardSaid : Prop := Claim7.holds Tryd.pinned (.plain (OpenSpec.ofChange keysAttemptsSpec)) keysAttemptsCard

/-- THE TIED CARD OF 'dominolaw08.KeysTell'. -/
def keysTellCard : Claim7 := { stood := { row := keysTellRow, standIns := [], harness := (true, "745d9957e3eaf97fc0047b5a2a2331510765a18beea88e2b3c98e43898ca1a3b"), looks := false }, kinds := [], alts := [], laidByText := true, laidKinds := [.data, .data, .data], laidTests := true, laidLooks := .later }
def KeysTellCardSaid : Prop := Claim7.holds Tryd.pinned (.plain (OpenSpec.ofChange keysTellSpec)) keysTellCard

/-- THE SECOND FORM's CARD OF 'dominolaw08.KeysApart'. -/
def keysApartUptoCard : Claim7 := { stood := { row := keysApartUptoRow, standIns := [], harness := (true, "745d9957e3eaf97fc0047b5a2a2331510765a18beea88e2b3c98e43898ca1a3b"), looks := false }, kinds := [], alts := [], laidByText := true, laidKinds := [.data, .data, .data], laidTests := true, laidLooks := .later }
def KeysApartUptoCardSaid : Prop := Claim7.holds Tryd.pinned (.plain (OpenSpec.upto keysApartSpec)) keysApartUptoCard

/-- THE SECOND FORM's CARD OF 'dominolaw08.KeysMade'. -/
def keysMadeUptoCard : Claim7 := { stood := { row := keysMadeUptoRow, standIns := [], harness := (true, "745d9957e3eaf97fc0047b5a2a2331510765a18beea88e2b3c98e43898ca1a3b"), looks := false }, kinds := [], alts := [], laidByText := true, laidKinds := [.data, .data, .data], laidTests := true, laidLooks := .later }
def KeysMadeUptoCardSaid : Prop := Claim7.holds Tryd.pinned (.plain (OpenSpec.upto keysMadeSpec)) keysMadeUptoCard

/-- THE SECOND FORM's CARD OF 'dominolaw08.KeysAttempts'. -/
def keysAttemptsUptoCard : Claim7 := { stood := { row := keysAttemptsUptoRow, standIns := [], harness := (true, "745d9957e3eaf97fc0047b5a2a2331510765a18beea88e2b3c98e43898ca1a3b"), looks := false }, kinds := [], alts := [], laidByText := true, laidKinds := [.data, .data, .data], laidTests := true, laidLooks := .later }
def KeysAttemptsUptoCardSaid : Prop := Claim7.holds Tryd.pinned (.plain (OpenSpec.upto keysAttemptsSpec)) keysAttemptsUptoCard

/-- THE SECOND FORM's CARD OF 'dominolaw08.KeysTell'. -/
def keysTellUptoCard : Claim7 := { stood := { row := keysTellUptoRow, standIns := [], harness := (true, "745d9957e3eaf97fc0047b5a2a2331510765a18beea88e2b3c98e43898ca1a3b"), looks := false }, kinds := [], alts := [], laidByText := true, laidKinds := [.data, .data, .data], laidTests := true, laidLooks := .later }
def KeysTellUptoCardSaid : Prop := Claim7.holds Tryd.pinned (.plain (OpenSpec.upto keysTellSpec)) keysTellUptoCard
end Rows
end Go.Proofs.YtlplpmkdebemnaaDoor
