/-
  DERIVED. GIVEN WITH THE SEED: THE CARDS: each row of YtgeocehgobcdjaaDoorRows.lean that lists a variable, with what it lists TIED to the program's text (the seventh form; the later family's looks); each row that meets fmt, with fmt's text TOLD by the authors' own Lean function (tested against real Go, not proved from fmt's source: count such statements apart). THE CARD IS WHAT COUNTS. Prove the row's statement (the work); the ties are given (YtgeocehgobcdjaaDoorTie.lean); close each card by the builder's one call (the guide's Derived/Test/ToyasCard.lean, 'card_holds'). Laid BY PROGRAM, IN A SANDBOX (cutbox-door.mjs). By AI agents, Wed Nov 11 2026. No macro, syntax, notation, axiom, sorry.
-/
import Derived.Test.YtgeocehgobcdjaaDoorRows
import GoSem.ClaimSeven
namespace Go.Proofs.YtgeocehgobcdjaaDoor
namespace Rows

/-- THE TIED CARD OF 'bayoulaw12.TimerAdds'. -/
def timerAddsCard : Claim7 := { stood := { row := timerAddsRow, standIns := [], harness := (true, "f973035bb71482cb43517170a89197a9773b472bc653d61fb84a6595b9de4b22"), looks := true }, kinds := [], alts := [], laidByText := true, laidKinds := [.handle], laidTests := true, laidLooks := .later }
def TimerAddsCardSaid : Prop := Claim7.holds Tryd.pinned (.plain (OpenSpec.ofChange timerAddsSpec)) timerAddsCard

/-- THE TIED CARD OF 'bayoulaw12.TimerCancels'. -/
def timerCancelsCard : Claim7 := { stood := { row := timerCancelsRow, standIns := [], harness := (true, "f973035bb71482cb43517170a89197a9773b472bc653d61fb84a6595b9de4b22"), looks := true }, kinds := [], alts := [], laidByText := true, laidKinds := [.handle], laidTests := true, laidLooks := .later }
def TimerCancelsCardSaid : Prop := Claim7.holds Tryd.pinned (.plain (OpenSpec.ofChange timerCancelsSpec)) timerCancelsCard

/-- THE TIED CARD OF 'bayoulaw12.TimerRuns'. -/
def timerRunsCard : Claim7 := { stood := { row := timerRunsRow, standIns := [], harness := (true, "f973035bb71482cb43517170a89197a9773b472bc653d61fb84a6595b9de4b22"), looks := true }, kinds := [], alts := [], laidByText := true, laidKinds := [.handle], laidTests := true, laidLooks := .later }
def TimerRunsCardSaid : Prop := Claim7.holds Tryd.pinned (.plain (OpenSpec.ofChange timerRunsSpec)) timerRunsCard

/-- THE SECOND FORM's CARD OF 'bayoulaw12.TimerAdds'. -/
def timerAddsUptoCard : Claim7 := { stood := { row := timerAddsUptoRow, standIns := [], harness := (true, "f973035bb71482cb43517170a89197a9773b472bc653d61fb84a6595b9de4b22"), looks := true }, kinds := [], alts := [], laidByText := true, laidKinds := [.handle], laidTests := true, laidLooks := .later }
def TimerAddsUptoCardSaid : Prop := Claim7.holds Tryd.pinned (.plain (OpenSpec.upto timerAddsSpec)) timerAddsUptoCard

/-- THE SECOND FORM's CARD OF 'bayoulaw12.TimerCancels'. -/
def timerCancelsUptoCard : Claim7 := { stood := { row := timerCancelsUptoRow, standIns := [], harness := (true, "f973035bb71482cb43517170a89197a9773b472bc653d61fb84a6595b9de4b22"), looks := true }, kinds := [], alts := [], laidByText := true, laidKinds := [.handle], laidTests := true, laidLooks := .later }
def TimerCancelsUptoCardSaid : Prop := Claim7.holds Tryd.pinned (.plain (OpenSpec.upto timerCancelsSpec)) timerCancelsUptoCard

/-- THE SECOND FORM's CARD OF 'bayoulaw12.TimerRuns'. -/
def timerRunsUptoCard : Claim7 := { stood := { row := timerRunsUptoRow, standIns := [], harness := (true, "f973035bb71482cb43517170a89197a9773b472bc653d61fb84a6595b9de4b22"), looks := true }, kinds := [], alts := [], laidByText := true, laidKinds := [.handle], laidTests := true, laidLooks := .later }
def TimerRunsUptoCardSaid : Prop := Claim7.holds Tryd.pinned (.plain (OpenSpec.upto timerRunsSpec)) timerRunsUptoCard
end Rows
end Go.Proofs.YtgeocehgobcdjaaDoor
