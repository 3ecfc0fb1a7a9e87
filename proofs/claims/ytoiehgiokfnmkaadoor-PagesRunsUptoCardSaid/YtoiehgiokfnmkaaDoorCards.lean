/-
  DERIVED. GIVEN WITH THE SEED: THE CARDS: each row of YtoiehgiokfnmkaaDoorRows.lean that lists a variable, with what it lists TIED to the program's text (the seventh form; the later family's looks); each row that meets fmt, with fmt's text TOLD by the authors' own Lean function (tested against real Go, not proved from fmt's source: count such statements apart). THE CARD IS WHAT COUNTS. Prove the row's statement (the work); the ties are given (YtoiehgiokfnmkaaDoorTie.lean); close each card by the builder's one call (the guide's Derived/Test/ToyasCard.lean, 'card_holds'). Laid BY PROGRAM, IN A SANDBOX (cutbox-door.mjs). By AI agents, Wed Nov 11 2026. No macro, syntax, notation, axiom, sorry.
-/
import Derived.Test.YtoiehgiokfnmkaaDoorRows
import GoSem.ClaimSeven
namespace Go.Proofs.YtoiehgiokfnmkaaDoor
namespace Rows

/-- THE TIED CARD OF 'bayoulaw09.PagesRuns'. -/
def pagesRunsCard : Claim7 := { stood := { row := pagesRunsRow, standIns := [], harness := (true, "337bfed79f3fbc9d1ada791a5dd4b00ef6600f37217898c335da20672c866d14"), looks := true }, kinds := [], alts := [], laidByText := true, laidKinds := [.handle], laidTests := true, laidLooks := .later }
def PagesRunsCardSaid : Prop := Claim7.holds Tryd.pinned (.plain (OpenSpec.ofChange pagesRunsSpec)) pagesRunsCard

/-- THE TIED CARD OF 'bayoulaw09.PagesCrash'. -/
def pagesCrashCard : Claim7 := { stood := { row := pagesCrashRow, standIns := [], harness := (true, "337bfed79f3fbc9d1ada791a5dd4b00ef6600f37217898c335da20672c866d14"), looks := true }, kinds := [], alts := [], laidByText := true, laidKinds := [.handle], laidTests := true, laidLooks := .later }
def PagesCrashCardSaid : Prop := Claim7.holds Tryd.pinned (.plain (OpenSpec.ofChange pagesCrashSpec)) pagesCrashCard

/-- THE SECOND FORM's CARD OF 'bayoulaw09.PagesRuns'. -/
def pagesRunsUptoCard : Claim7 := { stood := { row := pagesRunsUptoRow, standIns := [], harness := (true, "337bfed79f3fbc9d1ada791a5dd4b00ef6600f37217898c335da20672c866d14"), looks := true }, kinds := [], alts := [], laidByText := true, laidKinds := [.handle], laidTests := true, laidLooks := .later }
def PagesRunsUptoCardSaid : Prop := Claim7.holds Tryd.pinned (.plain (OpenSpec.upto pagesRunsSpec)) pagesRunsUptoCard

/-- THE SECOND FORM's CARD OF 'bayoulaw09.PagesCrash'. -/
def pagesCrashUptoCard : Claim7 := { stood := { row := pagesCrashUptoRow, standIns := [], harness := (true, "337bfed79f3fbc9d1ada791a5dd4b00ef6600f37217898c335da20672c866d14"), looks := true }, kinds := [], alts := [], laidByText := true, laidKinds := [.handle], laidTests := true, laidLooks := .later }
def PagesCrashUptoCardSaid : Prop := Claim7.holds Tryd.pinned (.plain (OpenSpec.upto pagesCrashSpec)) pagesCrashUptoCard
end Rows
end Go.Proofs.YtoiehgiokfnmkaaDoor
