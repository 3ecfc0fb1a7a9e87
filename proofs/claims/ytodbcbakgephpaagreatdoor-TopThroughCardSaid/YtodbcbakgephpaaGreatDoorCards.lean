/-
  DERIVED. GIVEN WITH THE SEED: THE CARDS: each row of YtodbcbakgephpaaGreatDoorRows.lean that lists a variable, with what it lists TIED to the program's text (the seventh form; the later family's looks); each row that meets fmt, with fmt's text TOLD by the authors' own Lean function (tested against real Go, not proved from fmt's source: count such statements apart). THE CARD IS WHAT COUNTS. Prove the row's statement (the work); the ties are given (YtodbcbakgephpaaGreatDoorTie.lean); close each card by the builder's one call (the guide's Derived/Test/ToyasCard.lean, 'card_holds'). Laid BY PROGRAM, IN A SANDBOX (cutbox-door.mjs). By AI agents, Wed Nov 11 2026. No macro, syntax, notation, axiom, sorry.
-/
import Derived.Test.YtodbcbakgephpaaGreatDoorRows
import GoSem.ClaimSeven
namespace Go.Proofs.YtodbcbakgephpaaGreatDoor
namespace Rows

/-- THE TIED CARD OF 'bayoutop.TopThrough'. -/
def topThroughCard : Claim7 := { stood := { row := topThroughRow, standIns := [], harness := (true, "cb9d722d35ab5fe89fc16413f07a15d1fdb05291679e58233a3300837aaace06"), looks := true }, kinds := [], alts := [], laidByText := true, laidKinds := [.data, .data, .data, .data], laidTests := true, laidLooks := .later }
def TopThroughCardSaid : Prop := Claim7.holds Tryz.pinned (.plain (OpenSpec.ofChange topThroughSpec)) topThroughCard

/-- THE SECOND FORM's CARD OF 'bayoutop.TopThrough'. -/
def topThroughUptoCard : Claim7 := { stood := { row := topThroughUptoRow, standIns := [], harness := (true, "cb9d722d35ab5fe89fc16413f07a15d1fdb05291679e58233a3300837aaace06"), looks := true }, kinds := [], alts := [], laidByText := true, laidKinds := [.data, .data, .data, .data], laidTests := true, laidLooks := .later }
def TopThroughUptoCardSaid : Prop := Claim7.holds Tryz.pinned (.plain (OpenSpec.upto topThroughSpec)) topThroughUptoCard
end Rows
end Go.Proofs.YtodbcbakgephpaaGreatDoor
