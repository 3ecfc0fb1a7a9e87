/-
  DERIVED. GIVEN WITH THE SEED: THE CARDS: each row of YtdppnaahdilkcaaGreatDoorRows.lean that lists a variable, with what it lists TIED to the program's text (the seventh form; the later family's looks); each row that meets fmt, with fmt's text TOLD by the authors' own Lean function (tested against real Go, not proved from fmt's source: count such statements apart). THE CARD IS WHAT COUNTS. Prove the row's statement (the work); the ties are given (YtdppnaahdilkcaaGreatDoorTie.lean); close each card by the builder's one call (the guide's Derived/Test/ToyasCard.lean, 'card_holds'). Laid BY PROGRAM, IN A SANDBOX (cutbox-door.mjs). By AI agents, Wed Nov 11 2026. No macro, syntax, notation, axiom, sorry.
-/
import Derived.Test.YtdppnaahdilkcaaGreatDoorRows
import GoSem.ClaimSeven
namespace Go.Proofs.YtdppnaahdilkcaaGreatDoor
namespace Rows

/-- THE TIED CARD OF 'bayoutop.TopVirtual'. -/
def topVirtualCard : Claim7 := { stood := { row := topVirtualRow, standIns := [], harness := (true, "396a47cdc05d95fd421c08b245842ca226110eb32320b2e22a94b1135e6f4356"), looks := true }, kinds := [], alts := [], laidByText := true, laidKinds := [.data, .data, .data, .data], laidTests := true, laidLooks := .later }
def TopVirtualCardSaid : Prop := Claim7.holds Tryz.pinned (.plain (OpenSpec.ofChange topVirtualSpec)) topVirtualCard

/-- THE SECOND FORM's CARD OF 'bayoutop.TopVirtual'. -/
def topVirtualUptoCard : Claim7 := { stood := { row := topVirtualUptoRow, standIns := [], harness := (true, "396a47cdc05d95fd421c08b245842ca226110eb32320b2e22a94b1135e6f4356"), looks := true }, kinds := [], alts := [], laidByText := true, laidKinds := [.data, .data, .data, .data], laidTests := true, laidLooks := .later }
def TopVirtualUptoCardSaid : Prop := Claim7.holds Tryz.pinned (.plain (OpenSpec.upto topVirtualSpec)) topVirtualUptoCard
end Rows
end Go.Proofs.YtdppnaahdilkcaaGreatDoor
