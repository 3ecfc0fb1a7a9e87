/-
  DERIVED. GIVEN WITH THE SEED: THE CARDS: each row of YtflfaiakenahlaaGreatDoorRows.lean that lists a variable, with what it lists TIED to the program's text (the seventh form; the later family's looks); each row that meets fmt, with fmt's text TOLD by the authors' own Lean function (tested against real Go, not proved from fmt's source: count such statements apart). THE CARD IS WHAT COUNTS. Prove the row's statement (the work); the ties are given (YtflfaiakenahlaaGreatDoorTie.lean); close each card by the builder's one call (the guide's Derived/Test/ToyasCard.lean, 'card_holds'). Laid BY PROGRAM, IN A SANDBOX (cutbox-door.mjs). By AI agents, Wed Nov 11 2026. No macro, syntax, notation, axiom, sorry.
-/
import Derived.Test.YtflfaiakenahlaaGreatDoorRows
import GoSem.ClaimSeven
namespace Go.Proofs.YtflfaiakenahlaaGreatDoor
namespace Rows

/-- THE TIED CARD OF 'bayoulaw10.ShelfOpens'. -/
def shelfOpensCard : Claim7 := { stood := { row := shelfOpensRow, standIns := [], harness := (true, "988377de657071782fb439be4a134bd280b15169261c0e8aa9a68328c4690a96"), looks := true }, kinds := [], alts := [], laidByText := true, laidKinds := [.handle], laidTests := true, laidLooks := .later }
def ShelfOpensCardSaid : Prop := Claim7.holds Tryz.pinned (.plain (OpenSpec.ofChange shelfOpensSpec)) shelfOpensCard

/-- THE TIED CARD OF 'bayoulaw10.ShelfApart'. -/
def shelfApartCard : Claim7 := { stood := { row := shelfApartRow, standIns := [], harness := (true, "988377de657071782fb439be4a134bd280b15169261c0e8aa9a68328c4690a96"), looks := true }, kinds := [], alts := [], laidByText := true, laidKinds := [.handle], laidTests := true, laidLooks := .later }
def ShelfApartCardSaid : Prop := Claim7.holds Tryz.pinned (.plain (OpenSpec.ofChange shelfApartSpec)) shelfApartCard

/-- THE TIED CARD OF 'bayoulaw10.ShelfLast'. -/
def shelfLastCard : Claim7 := { stood := { row := shelfLastRow, standIns := [], harness := (true, "988377de657071782fb439be4a134bd280b15169261c0e8aa9a68328c4690a96"), looks := true }, kinds := [], alts := [], laidByText := true, laidKinds := [.handle], laidTests := true, laidLooks := .later }
def ShelfLastCardSaid : Prop := Claim7.holds Tryz.pinned (.plain (OpenSpec.ofChange shelfLastSpec)) shelfLastCard

/-- THE TIED CARD OF 'bayoulaw10.ShelfSets'. -/
def shelfSetsCard : Claim7 := { stood := { row := shelfSetsRow, standIns := [], harness := (true, "988377de657071782fb439be4a134bd280b15169261c0e8aa9a68328c4690a96"), looks := true }, kinds := [], alts := [], laidByText := true, laidKinds := [.handle], laidTests := true, laidLooks := .later }
def ShelfSetsCardSaid : Prop := Claim7.holds Tryz.pinned (.plain (OpenSpec.ofChange shelfSetsSpec)) shelfSetsCard

/-- THE TIED CARD OF 'bayoulaw10.ShelfSafe'. -/
def shelfSafeCard : Claim7 := { stood := { row := shelfSafeRow, standIns := [], harness := (true, "988377de657071782fb439be4a134bd280b15169261c0e8aa9a68328c4690a96"), looks := true }, kinds := [], alts := [], laidByText := true, laidKinds := [.handle], laidTests := true, laidLooks := .later }
def ShelfSafeCardSaid : Prop := Claim7.holds Tryz.pinned (.plain (OpenSpec.ofChange shelfSafeSpec)) shelfSafeCard

/-- THE SECOND FORM's CARD OF 'bayoulaw10.ShelfOpens'. -/
def shelfOpensUptoCard : Claim7 := { stood := { row := shelfOpensUptoRow, standIns := [], harness := (true, "988377de657071782fb439be4a134bd280b15169261c0e8aa9a68328c4690a96"), looks := true }, kinds := [], alts := [], laidByText := true, laidKinds := [.handle], laidTests := true, laidLooks := .later }
def ShelfOpensUptoCardSaid : Prop := Claim7.holds Tryz.pinned (.plain (OpenSpec.upto shelfOpensSpec)) shelfOpensUptoCard

/-- THE SECOND FORM's CARD OF 'bayoulaw10.ShelfApart'. -/
def shelfApartUptoCard : Claim7 := { stood := { row := shelfApartUptoRow, standIns := [], harness := (true, "988377de657071782fb439be4a134bd280b15169261c0e8aa9a68328c4690a96"), looks := true }, kinds := [], alts := [], laidByText := true, laidKinds := [.handle], laidTests := true, laidLooks := .later }
def ShelfApartUptoCardSaid : Prop := Claim7.holds Tryz.pinned (.plain (OpenSpec.upto shelfApartSpec)) shelfApartUptoCard

/-- THE SECOND FORM's CARD OF 'bayoulaw10.ShelfLast'. -/
def shelfLastUptoCard : Claim7 := { stood := { row := shelfLastUptoRow, standIns := [], harness := (true, "988377de657071782fb439be4a134bd280b15169261c0e8aa9a68328c4690a96"), looks := true }, kinds := [], alts := [], laidByText := true, laidKinds := [.handle], laidTests := true, laidLooks := .later }
def ShelfLastUptoCardSaid : Prop := Claim7.holds Tryz.pinned (.plain (OpenSpec.upto shelfLastSpec)) shelfLastUptoCard

/-- THE SECOND FORM's CARD OF 'bayoulaw10.ShelfSets'. -/
def shelfSetsUptoCard : Claim7 := { stood := { row := shelfSetsUptoRow, standIns := [], harness := (true, "988377de657071782fb439be4a134bd280b15169261c0e8aa9a68328c4690a96"), looks := true }, kinds := [], alts := [], laidByText := true, laidKinds := [.handle], laidTests := true, laidLooks := .later }
def ShelfSetsUptoCardSaid : Prop := Claim7.holds Tryz.pinned (.plain (OpenSpec.upto shelfSetsSpec)) shelfSetsUptoCard

/-- THE SECOND FORM's CARD OF 'bayoulaw10.ShelfSafe'. -/
def shelfSafeUptoCard : Claim7 := { stood := { row := shelfSafeUptoRow, standIns := [], harness := (true, "988377de657071782fb439be4a134bd280b15169261c0e8aa9a68328c4690a96"), looks := true }, kinds := [], alts := [], laidByText := true, laidKinds := [.handle], laidTests := true, laidLooks := .later }
def ShelfSafeUptoCardSaid : Prop := Claim7.holds Tryz.pinned (.plain (OpenSpec.upto shelfSafeSpec)) shelfSafeUptoCard
end Rows
end Go.Proofs.YtflfaiakenahlaaGreatDoor
