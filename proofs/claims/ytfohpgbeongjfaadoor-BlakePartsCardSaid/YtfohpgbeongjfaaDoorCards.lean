/-
  DERIVED. GIVEN WITH THE SEED: THE CARDS: each row of YtfohpgbeongjfaaDoorRows.lean that lists a variable, with what it lists TIED to the program's text (the seventh form; the later family's looks); each row that meets fmt, with fmt's text TOLD by the authors' own Lean function (tested against real Go, not proved from fmt's source: count such statements apart). THE CARD IS WHAT COUNTS. Prove the row's statement (the work); the ties are given (YtfohpgbeongjfaaDoorTie.lean); close each card by the builder's one call (the guide's Derived/Test/ToyasCard.lean, 'card_holds'). Laid BY PROGRAM, IN A SANDBOX (cutbox-door.mjs). By AI agents, Wed Nov 11 2026. No macro, syntax, notation, axiom, sorry.
-/
import Derived.Test.YtfohpgbeongjfaaDoorRows
import GoSem.ClaimSeven
namespace Go.Proofs.YtfohpgbeongjfaaDoor
namespace Rows

/-- THE TIED CARD OF 'bayoulaw02.BlakeSums'. -/
def blakeSumsCard : Claim7 := { stood := { row := blakeSumsRow, standIns := [], harness := (true, "45f882132c808e8d276b7a384d562e230c0a6039372b80c37cd0589ad134d1d1"), looks := true }, kinds := [], alts := [], laidByText := true, laidKinds := [.data], laidTests := true, laidLooks := .later }
def BlakeSumsCardSaid : Prop := Claim7.holds Tryd.pinned (.plain (OpenSpec.ofChange blakeSumsSpec)) blakeSumsCard

/-- THE TIED CARD OF 'bayoulaw02.BlakeTexts'. -/
def blakeTextsCard : Claim7 := { stood := { row := blakeTextsRow, standIns := [], harness := (true, "45f882132c808e8d276b7a384d562e230c0a6039372b80c37cd0589ad134d1d1"), looks := true }, kinds := [], alts := [], laidByText := true, laidKinds := [.data], laidTests := true, laidLooks := .later }
def BlakeTextsCardSaid : Prop := Claim7.holds Tryd.pinned (.plain (OpenSpec.ofChange blakeTextsSpec)) blakeTextsCard

/-- THE TIED CARD OF 'bayoulaw02.BlakeKeyed'. -/
def blakeKeyedCard : Claim7 := { stood := { row := blakeKeyedRow, standIns := [], harness := (true, "45f882132c808e8d276b7a384d562e230c0a6039372b80c37cd0589ad134d1d1"), looks := true }, kinds := [], alts := [], laidByText := true, laidKinds := [.handle, .data], laidTests := true, laidLooks := .later }
def BlakeKeyedCardSaid : Prop := Claim7.holds Tryd.pinned (.plain (OpenSpec.ofChange blakeKeyedSpec)) blakeKeyedCard

/-- THE TIED CARD OF 'bayoulaw02.BlakeParts'. -/
def blakePartsCard : Claim7 := { stood := { row := blakePartsRow, standIns := [], harness := (true, "45f882132c808e8d276b7a384d562e230c0a6039372b80c37cd0589ad134d1d1"), looks := true }, kinds := [], alts := [], laidByText := true, laidKinds := [.handle, .data], laidTests := true, laidLooks := .later }
def BlakePartsCardSaid : Prop := Claim7.holds Tryd.pinned (.plain (OpenSpec.ofChange blakePartsSpec)) blakePartsCard

/-- THE SECOND FORM's CARD OF 'bayoulaw02.BlakeSums'. -/
def blakeSumsUptoCard : Claim7 := { stood := { row := blakeSumsUptoRow, standIns := [], harness := (true, "45f882132c808e8d276b7a384d562e230c0a6039372b80c37cd0589ad134d1d1"), looks := true }, kinds := [], alts := [], laidByText := true, laidKinds := [.data], laidTests := true, laidLooks := .later }
def BlakeSumsUptoCardSaid : Prop := Claim7.holds Tryd.pinned (.plain (OpenSpec.upto blakeSumsSpec)) blakeSumsUptoCard

/-- THE SECOND FORM's CARD OF 'bayoulaw02.BlakeTexts'. -/
def blakeTextsUptoCard : Claim7 := { stood := { row := blakeTextsUptoRow, standIns := [], harness := (true, "45f882132c808e8d276b7a384d562e230c0a6039372b80c37cd0589ad134d1d1"), looks := true }, kinds := [], alts := [], laidByText := true, laidKinds := [.data], laidTests := true, laidLooks := .later }
def BlakeTextsUptoCardSaid : Prop := Claim7.holds Tryd.pinned (.plain (OpenSpec.upto blakeTextsSpec)) blakeTextsUptoCard

/-- THE SECOND FORM's CARD OF 'bayoulaw02.BlakeKeyed'. -/
def blakeKeyedUptoCard : Claim7 := { stood := { row := blakeKeyedUptoRow, standIns := [], harness := (true, "45f882132c808e8d276b7a384d562e230c0a6039372b80c37cd0589ad134d1d1"), looks := true }, kinds := [], alts := [], laidByText := true, laidKinds := [.handle, .data], laidTests := true, laidLooks := .later }
def BlakeKeyedUptoCardSaid : Prop := Claim7.holds Tryd.pinned (.plain (OpenSpec.upto blakeKeyedSpec)) blakeKeyedUptoCard

/-- THE SECOND FORM's CARD OF 'bayoulaw02.BlakeParts'. -/
def blakePartsUptoCard : Claim7 := { stood := { row := blakePartsUptoRow, standIns := [], harness := (true, "45f882132c808e8d276b7a384d562e230c0a6039372b80c37cd0589ad134d1d1"), looks := true }, kinds := [], alts := [], laidByText := true, laidKinds := [.handle, .data], laidTests := true, laidLooks := .later }
def BlakePartsUptoCardSaid : Prop := Claim7.holds Tryd.pinned (.plain (OpenSpec.upto blakePartsSpec)) blakePartsUptoCard
end Rows
end Go.Proofs.YtfohpgbeongjfaaDoor
