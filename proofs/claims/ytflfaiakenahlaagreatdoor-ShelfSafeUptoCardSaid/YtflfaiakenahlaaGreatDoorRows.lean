/-
  NARROWER THAN 'FOR EVERY INPUT', by the rows' own cells (each row's printed sentence says how): ShelfOpens: laid · ShelfApart: laid · ShelfLast: laid · ShelfSets: laid · ShelfSafe: laid.
  DERIVED. THE GIVEN ROWS OF THIS SEAT. 5 by the template 'for every input the law returns true; each argument reads behind the call as it read before'; 0 by the template 'total and deterministic' (their statements: YtflfaiakenahlaaGreatDoorTotals.lean).
  GIVEN WITH THE SEED: the statements are not yours to turn. If you find one false, say at which input.
  Laid BY PROGRAM, IN A SANDBOX (cutbox-rows.mjs): the forced cells as the released guide's own fill.sh prints them over the translation 36ae1c91272e121f… (all of the seat's roots in one cut). By AI agents, Wed Nov 11 2026. No macro, syntax, notation, axiom, sorry.
-/
import Derived.Test.YtflfaiakenahlaaGreatDoorChecked
import GoSem.Claim
import GoSem.ClaimJoined
import GoSem.ClaimMapViews
import Derived.JoinedTies
import Derived.KernelRfl
namespace Go.Proofs.YtflfaiakenahlaaGreatDoor
/- THE CELL 'sum', in the pinned program and in every row, IS THE sha256 OF THE DUMP (.gsa) THAT YtflfaiakenahlaaGreatDoorProg.lean LOADS. Nothing in Lean hashes anything: it is a label: what it is worth is what the hold of that sum in a sandbox is worth. -/
noncomputable def Tryz.pinned : Pinned := { name := "ytflfaiakenahlaagreatdoor", sum := "36ae1c91272e121f78e67a434201c0a106462cdd4b8b74e3699d340d1bc40a37", checked := Tryz.checked }
namespace Rows
def none {H : Type} : Left H := { results := [], args := [] }

/- WHAT THE LISTED PACKAGE-LEVEL VARIABLES READ AS WHEN THE CALL BEGINS. Each datum BY PROGRAM (the guide's laid-datum.mjs) off the statement by which the dump's own 'gosem.cut.vars' lays the variable. In a bare row this is a premise. The card (YtflfaiakenahlaaGreatDoorCards.lean) ties it to the program's text. -/
def laid_errors_errorType {H : Type} : DataW H := .iface "internal/reflectlite.rtype" (.agg [.ptr (.lit (.string [101, 114, 114, 111, 114]))])

/-- 'bayoulaw10.ShelfOpens': WHATEVER THE INPUT: true; the input reads as it did. -/
def shelfOpensSpec : ChangeSpec := { name := "shelfOpens", fn := fun _ => fun
  | [d1, d2, d3] => { results := [.lit (.bool true)], args := [d1, d2, d3] }
  | _ => none }
def shelfOpensRow : OpenClaim := { program := "ytflfaiakenahlaagreatdoor", sum := "36ae1c91272e121f78e67a434201c0a106462cdd4b8b74e3699d340d1bc40a37", func := "bayou/bayoulaw10.ShelfOpens", spec := "shelfOpens", inPlace := ["maps.clone", "internal/reflectlite.ValueOf", "(internal/reflectlite.Value).Type", "(internal/reflectlite.Value).IsNil", "internal/reflectlite.TypeOf", "(internal/reflectlite.Value).Elem", "(internal/reflectlite.Value).Set"], unfollowed := true, recurses := true, named := ["errors.errorType"], apart := false, laid := [("errors.errorType", laid_errors_errorType)] }
def ShelfOpensSaid : Prop := shelfOpensRow.holds Tryz.pinned (OpenSpec.ofChange shelfOpensSpec)

/-- ITS FALSE NEIGHBOUR: 'it returns false'. Refute it at one input. -/
def shelfOpensWrong : ChangeSpec := { name := "shelfOpens", fn := fun _ => fun
  | [d1, d2, d3] => { results := [.lit (.bool false)], args := [d1, d2, d3] }
  | _ => none }
def ShelfOpensWrongFalsely : Prop := shelfOpensRow.holds Tryz.pinned (OpenSpec.ofChange shelfOpensWrong)

/-- 'bayoulaw10.ShelfApart': WHATEVER THE INPUT: true; the input reads as it did. -/
def shelfApartSpec : ChangeSpec := { name := "shelfApart", fn := fun _ => fun
  | [d1, d2] => { results := [.lit (.bool true)], args := [d1, d2] }
  | _ => none }
def shelfApartRow : OpenClaim := { program := "ytflfaiakenahlaagreatdoor", sum := "36ae1c91272e121f78e67a434201c0a106462cdd4b8b74e3699d340d1bc40a37", func := "bayou/bayoulaw10.ShelfApart", spec := "shelfApart", inPlace := ["maps.clone", "internal/reflectlite.ValueOf", "(internal/reflectlite.Value).Type", "(internal/reflectlite.Value).IsNil", "internal/reflectlite.TypeOf", "(internal/reflectlite.Value).Elem", "(internal/reflectlite.Value).Set"], unfollowed := true, recurses := true, named := ["errors.errorType"], apart := false, laid := [("errors.errorType", laid_errors_errorType)] }
def ShelfApartSaid : Prop := shelfApartRow.holds Tryz.pinned (OpenSpec.ofChange shelfApartSpec)

/-- ITS FALSE NEIGHBOUR: 'it returns false'. Refute it at one input. -/
def shelfApartWrong : ChangeSpec := { name := "shelfApart", fn := fun _ => fun
  | [d1, d2] => { results := [.lit (.bool false)], args := [d1, d2] }
  | _ => none }
def ShelfApartWrongFalsely : Prop := shelfApartRow.holds Tryz.pinned (OpenSpec.ofChange shelfApartWrong)

/-- 'bayoulaw10.ShelfLast': WHATEVER THE INPUT: true; the input reads as it did. -/
def shelfLastSpec : ChangeSpec := { name := "shelfLast", fn := fun _ => fun
  | [d1, d2] => { results := [.lit (.bool true)], args := [d1, d2] }
  | _ => none }
def shelfLastRow : OpenClaim := { program := "ytflfaiakenahlaagreatdoor", sum := "36ae1c91272e121f78e67a434201c0a106462cdd4b8b74e3699d340d1bc40a37", func := "bayou/bayoulaw10.ShelfLast", spec := "shelfLast", inPlace := ["maps.clone", "internal/reflectlite.ValueOf", "(internal/reflectlite.Value).Type", "(internal/reflectlite.Value).IsNil", "internal/reflectlite.TypeOf", "(internal/reflectlite.Value).Elem", "(internal/reflectlite.Value).Set"], unfollowed := true, recurses := true, named := ["errors.errorType"], apart := false, laid := [("errors.errorType", laid_errors_errorType)] }
def ShelfLastSaid : Prop := shelfLastRow.holds Tryz.pinned (OpenSpec.ofChange shelfLastSpec)

/-- ITS FALSE NEIGHBOUR: 'it returns false'. Refute it at one input. -/
def shelfLastWrong : ChangeSpec := { name := "shelfLast", fn := fun _ => fun
  | [d1, d2] => { results := [.lit (.bool false)], args := [d1, d2] }
  | _ => none }
def ShelfLastWrongFalsely : Prop := shelfLastRow.holds Tryz.pinned (OpenSpec.ofChange shelfLastWrong)

/-- 'bayoulaw10.ShelfSets': WHATEVER THE INPUT: true; the input reads as it did. -/
def shelfSetsSpec : ChangeSpec := { name := "shelfSets", fn := fun _ => fun
  | [d1, d2] => { results := [.lit (.bool true)], args := [d1, d2] }
  | _ => none }
def shelfSetsRow : OpenClaim := { program := "ytflfaiakenahlaagreatdoor", sum := "36ae1c91272e121f78e67a434201c0a106462cdd4b8b74e3699d340d1bc40a37", func := "bayou/bayoulaw10.ShelfSets", spec := "shelfSets", inPlace := ["maps.clone", "internal/reflectlite.ValueOf", "(internal/reflectlite.Value).Type", "(internal/reflectlite.Value).IsNil", "internal/reflectlite.TypeOf", "(internal/reflectlite.Value).Elem", "(internal/reflectlite.Value).Set"], unfollowed := true, recurses := true, named := ["errors.errorType"], apart := false, laid := [("errors.errorType", laid_errors_errorType)] }
def ShelfSetsSaid : Prop := shelfSetsRow.holds Tryz.pinned (OpenSpec.ofChange shelfSetsSpec)

/-- ITS FALSE NEIGHBOUR: 'it returns false'. Refute it at one input. -/
def shelfSetsWrong : ChangeSpec := { name := "shelfSets", fn := fun _ => fun
  | [d1, d2] => { results := [.lit (.bool false)], args := [d1, d2] }
  | _ => none }
def ShelfSetsWrongFalsely : Prop := shelfSetsRow.holds Tryz.pinned (OpenSpec.ofChange shelfSetsWrong)

/-- 'bayoulaw10.ShelfSafe': WHATEVER THE INPUT: true; the input reads as it did. -/
def shelfSafeSpec : ChangeSpec := { name := "shelfSafe", fn := fun _ => fun
  | [d1, d2, d3] => { results := [.lit (.bool true)], args := [d1, d2, d3] }
  | _ => none }
def shelfSafeRow : OpenClaim := { program := "ytflfaiakenahlaagreatdoor", sum := "36ae1c91272e121f78e67a434201c0a106462cdd4b8b74e3699d340d1bc40a37", func := "bayou/bayoulaw10.ShelfSafe", spec := "shelfSafe", inPlace := ["maps.clone", "internal/reflectlite.ValueOf", "(internal/reflectlite.Value).Type", "(internal/reflectlite.Value).IsNil", "internal/reflectlite.TypeOf", "(internal/reflectlite.Value).Elem", "(internal/reflectlite.Value).Set"], unfollowed := true, recurses := true, named := ["errors.errorType"], apart := false, laid := [("errors.errorType", laid_errors_errorType)] }
def ShelfSafeSaid : Prop := shelfSafeRow.holds Tryz.pinned (OpenSpec.ofChange shelfSafeSpec)

/-- ITS FALSE NEIGHBOUR: 'it returns false'. Refute it at one input. -/
def shelfSafeWrong : ChangeSpec := { name := "shelfSafe", fn := fun _ => fun
  | [d1, d2, d3] => { results := [.lit (.bool false)], args := [d1, d2, d3] }
  | _ => none }
def ShelfSafeWrongFalsely : Prop := shelfSafeRow.holds Tryz.pinned (OpenSpec.ofChange shelfSafeWrong)

/- THE SECOND FORM. 'bulk': how many values and letters a reading holds, each counted each time it is reached (what is shared counts as often as it is met; a slice's spare places count too). A statement '..UptoSaid' is the law's where the arguments, and the package variables that the reading takes, are together of bulk at most 1048576: NARROWER than '..Said'. Prove '..Said' where nothing that the law and all that it calls make is longer than what came in: it says more and counts as full. Else prove '..UptoSaid'. A law counts once. -/
mutual
def uptoBulk {H : Type} : DataW H → Nat
  | .lit (.string bytes) => bytes.length + 1
  | .lit _ => 1
  | .nil => 1
  | .ptr d => uptoBulk d + 1
  | .slice elems spare => uptoBulkAll elems + uptoBulkAll spare + 1
  | .agg parts => uptoBulkAll parts + 1
  | .iface _ d => uptoBulk d + 1
  | .map entries => uptoBulkEntries entries + 1
  | .held _ => 1
def uptoBulkAll {H : Type} : List (DataW H) → Nat
  | [] => 0
  | d :: r => uptoBulk d + uptoBulkAll r
def uptoBulkEntries {H : Type} : List (Lit × DataW H) → Nat
  | [] => 0
  | x :: r => uptoBulkEntry x + uptoBulkEntries r
def uptoBulkEntry {H : Type} : Lit × DataW H → Nat
  | (.string bytes, d) => bytes.length + uptoBulk d + 1
  | (_, d) => uptoBulk d + 1
 end
def uptoSmall : (H : Type) → List (DataW H) → Bool := fun _ ds => decide (uptoBulkAll ds ≤ 1048576)
def OpenSpec.upto (s : _root_.Go.ChangeSpec) : _root_.Go.OpenSpec := { _root_.Go.OpenSpec.ofChange s with cond := some uptoSmall }

/-- 'bayoulaw10.ShelfOpens', WHERE WHAT IT READS IS OF BULK AT MOST 1048576: true; the input reads as it did. -/
def shelfOpensUptoRow : OpenClaim := { program := "ytflfaiakenahlaagreatdoor", sum := "36ae1c91272e121f78e67a434201c0a106462cdd4b8b74e3699d340d1bc40a37", func := "bayou/bayoulaw10.ShelfOpens", spec := "shelfOpens", inPlace := ["maps.clone", "internal/reflectlite.ValueOf", "(internal/reflectlite.Value).Type", "(internal/reflectlite.Value).IsNil", "internal/reflectlite.TypeOf", "(internal/reflectlite.Value).Elem", "(internal/reflectlite.Value).Set"], unfollowed := true, recurses := true, named := ["errors.errorType"], apart := false, laid := [("errors.errorType", laid_errors_errorType)], narrowed := true }
def ShelfOpensUptoSaid : Prop := shelfOpensUptoRow.holds Tryz.pinned (OpenSpec.upto shelfOpensSpec)

/-- 'bayoulaw10.ShelfApart', WHERE WHAT IT READS IS OF BULK AT MOST 1048576: true; the input reads as it did. -/
def shelfApartUptoRow : OpenClaim := { program := "ytflfaiakenahlaagreatdoor", sum := "36ae1c91272e121f78e67a434201c0a106462cdd4b8b74e3699d340d1bc40a37", func := "bayou/bayoulaw10.ShelfApart", spec := "shelfApart", inPlace := ["maps.clone", "internal/reflectlite.ValueOf", "(internal/reflectlite.Value).Type", "(internal/reflectlite.Value).IsNil", "internal/reflectlite.TypeOf", "(internal/reflectlite.Value).Elem", "(internal/reflectlite.Value).Set"], unfollowed := true, recurses := true, named := ["errors.errorType"], apart := false, laid := [("errors.errorType", laid_errors_errorType)], narrowed := true }
def ShelfApartUptoSaid : Prop := shelfApartUptoRow.holds Tryz.pinned (OpenSpec.upto shelfApartSpec)

/-- 'bayoulaw10.ShelfLast', WHERE WHAT IT READS IS OF BULK AT MOST 1048576: true; the input reads as it did. -/
def shelfLastUptoRow : OpenClaim := { program := "ytflfaiakenahlaagreatdoor", sum := "36ae1c91272e121f78e67a434201c0a106462cdd4b8b74e3699d340d1bc40a37", func := "bayou/bayoulaw10.ShelfLast", spec := "shelfLast", inPlace := ["maps.clone", "internal/reflectlite.ValueOf", "(internal/reflectlite.Value).Type", "(internal/reflectlite.Value).IsNil", "internal/reflectlite.TypeOf", "(internal/reflectlite.Value).Elem", "(internal/reflectlite.Value).Set"], unfollowed := true, recurses := true, named := ["errors.errorType"], apart := false, laid := [("errors.errorType", laid_errors_errorType)], narrowed := true }
def ShelfLastUptoSaid : Prop := shelfLastUptoRow.holds Tryz.pinned (OpenSpec.upto shelfLastSpec)

/-- 'bayoulaw10.ShelfSets', WHERE WHAT IT READS IS OF BULK AT MOST 1048576: true; the input reads as it did. -/
def shelfSetsUptoRow : OpenClaim := { program := "ytflfaiakenahlaagreatdoor", sum := "36ae1c91272e121f78e67a434201c0a106462cdd4b8b74e3699d340d1bc40a37", func := "bayou/bayoulaw10.ShelfSets", spec := "shelfSets", inPlace := ["maps.clone", "internal/reflectlite.ValueOf", "(internal/reflectlite.Value).Type", "(internal/reflectlite.Value).IsNil", "internal/reflectlite.TypeOf", "(internal/reflectlite.Value).Elem", "(internal/reflectlite.Value).Set"], unfollowed := true, recurses := true, named := ["errors.errorType"], apart := false, laid := [("errors.errorType", laid_errors_errorType)], narrowed := true }
def ShelfSetsUptoSaid : Prop := shelfSetsUptoRow.holds Tryz.pinned (OpenSpec.upto shelfSetsSpec)

/-- 'bayoulaw10.ShelfSafe', WHERE WHAT IT READS IS OF BULK AT MOST 1048576: true; the input reads as it did. -/
def shelfSafeUptoRow : OpenClaim := { program := "ytflfaiakenahlaagreatdoor", sum := "36ae1c91272e121f78e67a434201c0a106462cdd4b8b74e3699d340d1bc40a37", func := "bayou/bayoulaw10.ShelfSafe", spec := "shelfSafe", inPlace := ["maps.clone", "internal/reflectlite.ValueOf", "(internal/reflectlite.Value).Type", "(internal/reflectlite.Value).IsNil", "internal/reflectlite.TypeOf", "(internal/reflectlite.Value).Elem", "(internal/reflectlite.Value).Set"], unfollowed := true, recurses := true, named := ["errors.errorType"], apart := false, laid := [("errors.errorType", laid_errors_errorType)], narrowed := true }
def ShelfSafeUptoSaid : Prop := shelfSafeUptoRow.holds Tryz.pinned (OpenSpec.upto shelfSafeSpec)

end Rows
end Go.Proofs.YtflfaiakenahlaaGreatDoor
