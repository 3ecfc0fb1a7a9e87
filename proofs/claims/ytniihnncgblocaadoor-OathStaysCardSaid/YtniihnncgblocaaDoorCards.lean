/-
  DERIVED. GIVEN WITH THE SEED: THE CARDS: each row of YtniihnncgblocaaDoorRows.lean that lists a variable, with what it lists TIED to the program's text (the seventh form; the later family's looks); each row that meets fmt, with fmt's text TOLD by the authors' own Lean function (tested against real Go, not proved from fmt's source: count such statements apart). THE CARD IS WHAT COUNTS. Prove the row's statement (the work); the ties are given (YtniihnncgblocaaDoorTie.lean); close each card by the builder's one call (the guide's Derived/Test/ToyasCard.lean, 'card_holds'). Laid BY PROGRAM, IN A SANDBOX (cutbox-door.mjs). By AI agents, Wed Nov 11 2026. No macro, syntax, notation, axiom, sorry.
-/
import Derived.Test.YtniihnncgblocaaDoorRows
import GoSem.ClaimSeven
namespace Go.Proofs.YtniihnncgblocaaDoor
namespace Rows

/-- THE TIED CARD OF 'bayoulaw03.OathAll'. -/
def oathAllCard : Claim7 := { stood := { row := oathAllRow, standIns := [], harness := (true, "3a9383c30b9440afe2e2e94e29d73987ab48e38344d38ece897759b69d0b0527"), looks := true }, kinds := [], alts := [], laidByText := true, laidKinds := [.handle], laidTests := true, laidLooks := .later }
def OathAllCardSaid : Prop := Claim7.holds Tryd.pinned (.plain (OpenSpec.ofChange oathAllSpec)) oathAllCard

/-- THE TIED CARD OF 'bayoulaw03.OathOrder'. -/
def oathOrderCard : Claim7 := { stood := { row := oathOrderRow, standIns := [], harness := (true, "3a9383c30b9440afe2e2e94e29d73987ab48e38344d38ece897759b69d0b0527"), looks := true }, kinds := [], alts := [], laidByText := true, laidKinds := [.handle], laidTests := true, laidLooks := .later }
def OathOrderCardSaid : Prop := Claim7.holds Tryd.pinned (.plain (OpenSpec.ofChange oathOrderSpec)) oathOrderCard

/-- THE TIED CARD OF 'bayoulaw03.OathStays'. -/
def oathStaysCard : Claim7 := { stood := { row := oathStaysRow, standIns := [], harness := (true, "3a9383c30b9440afe2e2e94e29d73987ab48e38344d38ece897759b69d0b0527"), looks := true }, kinds := [], alts := [], laidByText := true, laidKinds := [.handle], laidTests := true, laidLooks := .later }
def OathStaysCardSaid : Prop := Claim7.holds Tryd.pinned (.plain (OpenSpec.ofChange oathStaysSpec)) oathStaysCard

/-- THE TIED CARD OF 'bayoulaw03.OathRuns'. -/
def oathRunsCard : Claim7 := { stood := { row := oathRunsRow, standIns := [], harness := (true, "3a9383c30b9440afe2e2e94e29d73987ab48e38344d38ece897759b69d0b0527"), looks := true }, kinds := [], alts := [], laidByText := true, laidKinds := [.handle], laidTests := true, laidLooks := .later }
def OathRunsCardSaid : Prop := Claim7.holds Tryd.pinned (.plain (OpenSpec.ofChange oathRunsSpec)) oathRunsCard

/-- THE SECOND FORM's CARD OF 'bayoulaw03.OathAll'. -/
def oathAllUptoCard : Claim7 := { stood := { row := oathAllUptoRow, standIns := [], harness := (true, "3a9383c30b9440afe2e2e94e29d73987ab48e38344d38ece897759b69d0b0527"), looks := true }, kinds := [], alts := [], laidByText := true, laidKinds := [.handle], laidTests := true, laidLooks := .later }
def OathAllUptoCardSaid : Prop := Claim7.holds Tryd.pinned (.plain (OpenSpec.upto oathAllSpec)) oathAllUptoCard

/-- THE SECOND FORM's CARD OF 'bayoulaw03.OathOrder'. -/
def oathOrderUptoCard : Claim7 := { stood := { row := oathOrderUptoRow, standIns := [], harness := (true, "3a9383c30b9440afe2e2e94e29d73987ab48e38344d38ece897759b69d0b0527"), looks := true }, kinds := [], alts := [], laidByText := true, laidKinds := [.handle], laidTests := true, laidLooks := .later }
def OathOrderUptoCardSaid : Prop := Claim7.holds Tryd.pinned (.plain (OpenSpec.upto oathOrderSpec)) oathOrderUptoCard

/-- THE SECOND FORM's CARD OF 'bayoulaw03.OathStays'. -/
def oathStaysUptoCard : Claim7 := { stood := { row := oathStaysUptoRow, standIns := [], harness := (true, "3a9383c30b9440afe2e2e94e29d73987ab48e38344d38ece897759b69d0b0527"), looks := true }, kinds := [], alts := [], laidByText := true, laidKinds := [.handle], laidTests := true, laidLooks := .later }
def OathStaysUptoCardSaid : Prop := Claim7.holds Tryd.pinned (.plain (OpenSpec.upto oathStaysSpec)) oathStaysUptoCard

/-- THE SECOND FORM's CARD OF 'bayoulaw03.OathRuns'. -/
def oathRunsUptoCard : Claim7 := { stood := { row := oathRunsUptoRow, standIns := [], harness := (true, "3a9383c30b9440afe2e2e94e29d73987ab48e38344d38ece897759b69d0b0527"), looks := true }, kinds := [], alts := [], laidByText := true, laidKinds := [.handle], laidTests := true, laidLooks := .later }
def OathRunsUptoCardSaid : Prop := Claim7.holds Tryd.pinned (.plain (OpenSpec.upto oathRunsSpec)) oathRunsUptoCard
end Rows
end Go.Proofs.YtniihnncgblocaaDoor
