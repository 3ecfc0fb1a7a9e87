/-
  NARROWER THAN 'FOR EVERY INPUT', by the rows' own cells (each row's printed sentence says how): OathAll: laid · OathOrder: laid · OathStays: laid · OathRuns: laid.
  DERIVED. THE GIVEN ROWS OF THIS SEAT. 4 by the template 'for every input the law returns true; each argument reads behind the call as it read before'; 0 by the template 'total and deterministic' (their statements: YtniihnncgblocaaDoorTotals.lean).
  GIVEN WITH THE SEED: the statements are not yours to turn. If you find one false, say at which input.
  Laid BY PROGRAM, IN A SANDBOX (cutbox-rows.mjs): the forced cells as the released guide's own fill.sh prints them over the translation d158170bbdb4a6f4… (all of the seat's roots in one cut). By AI agents, Wed Nov 11 2026. No macro, syntax, notation, axiom, sorry.
-/
import Derived.Test.YtniihnncgblocaaDoorChecked
import GoSem.Claim
import GoSem.ClaimJoined
import GoSem.ClaimMapViews
import Derived.JoinedTies
import Derived.KernelRfl
namespace Go.Proofs.YtniihnncgblocaaDoor
/- THE CELL 'sum', in the pinned program and in every row, IS THE sha256 OF THE DUMP (.gsa) THAT YtniihnncgblocaaDoorProg.lean LOADS. Nothing in Lean hashes anything: it is a label: what it is worth is what the hold of that sum in a sandbox is worth. -/
noncomputable def Tryd.pinned : Pinned := { name := "ytniihnncgblocaadoor", sum := "d158170bbdb4a6f47f59939284e744b8645a79532de8376170f59f2a89d662a0", checked := Tryd.checked }
namespace Rows
def none {H : Type} : Left H := { results := [], args := [] }

/- WHAT THE LISTED PACKAGE-LEVEL VARIABLES READ AS WHEN THE CALL BEGINS. Each datum BY PROGRAM (the guide's laid-datum.mjs) off the statement by which the dump's own 'gosem.cut.vars' lays the variable. In a bare row this is a premise. The card (YtniihnncgblocaaDoorCards.lean) ties it to the program's text. -/
def laid_errors_errorType {H : Type} : DataW H := .iface "internal/reflectlite.rtype" (.agg [.ptr (.lit (.string [101, 114, 114, 111, 114]))])

/-- 'bayoulaw03.OathAll': WHATEVER THE INPUT: true; the input reads as it did. -/
def oathAllSpec : ChangeSpec := { name := "oathAll", fn := fun _ => fun
  | [d1, d2, d3] => { results := [.lit (.bool true)], args := [d1, d2, d3] }
  | _ => none }
def oathAllRow : OpenClaim := { program := "ytniihnncgblocaadoor", sum := "d158170bbdb4a6f47f59939284e744b8645a79532de8376170f59f2a89d662a0", func := "bayou/bayoulaw03.OathAll", spec := "oathAll", inPlace := ["slices.overlaps[int]", "internal/reflectlite.ValueOf", "(internal/reflectlite.Value).Type", "(internal/reflectlite.Value).IsNil", "internal/reflectlite.TypeOf", "(internal/reflectlite.Value).Elem", "(internal/reflectlite.Value).Set"], unfollowed := true, recurses := true, named := ["errors.errorType"], plainKeys := false, apart := false, laid := [("errors.errorType", laid_errors_errorType)] }
def OathAllSaid : Prop := oathAllRow.holds Tryd.pinned (OpenSpec.ofChange oathAllSpec)

/-- ITS FALSE NEIGHBOUR: 'it returns false'. Refute it at one input. -/
def oathAllWrong : ChangeSpec := { name := "oathAll", fn := fun _ => fun
  | [d1, d2, d3] => { results := [.lit (.bool false)], args := [d1, d2, d3] }
  | _ => none }
def OathAllWrongFalsely : Prop := oathAllRow.holds Tryd.pinned (OpenSpec.ofChange oathAllWrong)

/-- 'bayoulaw03.OathOrder': WHATEVER THE INPUT: true; the input reads as it did. -/
def oathOrderSpec : ChangeSpec := { name := "oathOrder", fn := fun _ => fun
  | [d1, d2] => { results := [.lit (.bool true)], args := [d1, d2] }
  | _ => none }
def oathOrderRow : OpenClaim := { program := "ytniihnncgblocaadoor", sum := "d158170bbdb4a6f47f59939284e744b8645a79532de8376170f59f2a89d662a0", func := "bayou/bayoulaw03.OathOrder", spec := "oathOrder", inPlace := ["slices.overlaps[int]", "internal/reflectlite.ValueOf", "(internal/reflectlite.Value).Type", "(internal/reflectlite.Value).IsNil", "internal/reflectlite.TypeOf", "(internal/reflectlite.Value).Elem", "(internal/reflectlite.Value).Set"], unfollowed := true, recurses := true, named := ["errors.errorType"], plainKeys := false, apart := false, laid := [("errors.errorType", laid_errors_errorType)] }
def OathOrderSaid : Prop := oathOrderRow.holds Tryd.pinned (OpenSpec.ofChange oathOrderSpec)

/-- ITS FALSE NEIGHBOUR: 'it returns false'. Refute it at one input. -/
def oathOrderWrong : ChangeSpec := { name := "oathOrder", fn := fun _ => fun
  | [d1, d2] => { results := [.lit (.bool false)], args := [d1, d2] }
  | _ => none }
def OathOrderWrongFalsely : Prop := oathOrderRow.holds Tryd.pinned (OpenSpec.ofChange oathOrderWrong)

/-- 'bayoulaw03.OathStays': WHATEVER THE INPUT: true; the input reads as it did. -/
def oathStaysSpec : ChangeSpec := { name := "oathStays", fn := fun _ => fun
  | [d1, d2] => { results := [.lit (.bool true)], args := [d1, d2] }
  | _ => none }
def oathStaysRow : OpenClaim := { program := "ytniihnncgblocaadoor", sum := "d158170bbdb4a6f47f59939284e744b8645a79532de8376170f59f2a89d662a0", func := "bayou/bayoulaw03.OathStays", spec := "oathStays", inPlace := ["slices.overlaps[int]", "internal/reflectlite.ValueOf", "(internal/reflectlite.Value).Type", "(internal/reflectlite.Value).IsNil", "internal/reflectlite.TypeOf", "(internal/reflectlite.Value).Elem", "(internal/reflectlite.Value).Set", "maps.clone"], unfollowed := true, recurses := true, named := ["errors.errorType"], plainKeys := false, apart := false, laid := [("errors.errorType", laid_errors_errorType)] }
def OathStaysSaid : Prop := oathStaysRow.holds Tryd.pinned (OpenSpec.ofChange oathStaysSpec)

/-- ITS FALSE NEIGHBOUR: 'it returns false'. Refute it at one input. -/
def oathStaysWrong : ChangeSpec := { name := "oathStays", fn := fun _ => fun
  | [d1, d2] => { results := [.lit (.bool false)], args := [d1, d2] }
  | _ => none }
def OathStaysWrongFalsely : Prop := oathStaysRow.holds Tryd.pinned (OpenSpec.ofChange oathStaysWrong)

/-- 'bayoulaw03.OathRuns': WHATEVER THE INPUT: true; the input reads as it did. -/
def oathRunsSpec : ChangeSpec := { name := "oathRuns", fn := fun _ => fun
  | [d1, d2, d3] => { results := [.lit (.bool true)], args := [d1, d2, d3] }
  | _ => none }
def oathRunsRow : OpenClaim := { program := "ytniihnncgblocaadoor", sum := "d158170bbdb4a6f47f59939284e744b8645a79532de8376170f59f2a89d662a0", func := "bayou/bayoulaw03.OathRuns", spec := "oathRuns", inPlace := ["slices.overlaps[int]", "internal/reflectlite.ValueOf", "(internal/reflectlite.Value).Type", "(internal/reflectlite.Value).IsNil", "internal/reflectlite.TypeOf", "(internal/reflectlite.Value).Elem", "(internal/reflectlite.Value).Set", "maps.clone"], unfollowed := true, recurses := true, named := ["errors.errorType"], plainKeys := false, apart := false, laid := [("errors.errorType", laid_errors_errorType)] }
def OathRunsSaid : Prop := oathRunsRow.holds Tryd.pinned (OpenSpec.ofChange oathRunsSpec)

/-- ITS FALSE NEIGHBOUR: 'it returns false'. Refute it at one input. -/
def oathRunsWrong : ChangeSpec := { name := "oathRuns", fn := fun _ => fun
  | [d1, d2, d3] => { results := [.lit (.bool false)], args := [d1, d2, d3] }
  | _ => none }
def OathRunsWrongFalsely : Prop := oathRunsRow.holds Tryd.pinned (OpenSpec.ofChange oathRunsWrong)

/- THE SECOND FORM. 'bulk': how many values and letters a reading holds, each counted each time it is reached (what is shared counts as often as it is met; a slice's spare places count too). A statement '..UptoSaid' is the law's where the arguments, and the package variables that the reading takes, are together of bulk at most 1048576: NARROWER than '..Said'. Prove '..Said' where nothing that the law and all that it calls make is longer than what came in: it says more and counts as full. Else prove '..UptoSaid'. A law counts once. -/
mutual
def uptoBulk {H : Type} : DataW H → Nat
  | .lit (.string bytes) => bytes.length + 1
  | .lit _ => 1
  | .nil => 1
  | .ptr d => uptoBulk d + 1
  | .slice elems spare => uptoBulkAll elems + uptoBulkAll spare + 1
  | .agg parts => uptoBulkAll parts + 1
  | .iface _ d => uptoBulk d + 1
  | .map entries => uptoBulkEntries entries + 1
  | .held _ => 1
def uptoBulkAll {H : Type} : List (DataW H) → Nat
  | [] => 0
  | d :: r => uptoBulk d + uptoBulkAll r
def uptoBulkEntries {H : Type} : List (Lit × DataW H) → Nat
  | [] => 0
  | x :: r => uptoBulkEntry x + uptoBulkEntries r
def uptoBulkEntry {H : Type} : Lit × DataW H → Nat
  | (.string bytes, d) => bytes.length + uptoBulk d + 1
  | (_, d) => uptoBulk d + 1
 end
def uptoSmall : (H : Type) → List (DataW H) → Bool := fun _ ds => decide (uptoBulkAll ds ≤ 1048576)
def OpenSpec.upto (s : _root_.Go.ChangeSpec) : _root_.Go.OpenSpec := { _root_.Go.OpenSpec.ofChange s with cond := some uptoSmall }

/-- 'bayoulaw03.OathAll', WHERE WHAT IT READS IS OF BULK AT MOST 1048576: true; the input reads as it did. -/
def oathAllUptoRow : OpenClaim := { program := "ytniihnncgblocaadoor", sum := "d158170bbdb4a6f47f59939284e744b8645a79532de8376170f59f2a89d662a0", func := "bayou/bayoulaw03.OathAll", spec := "oathAll", inPlace := ["slices.overlaps[int]", "internal/reflectlite.ValueOf", "(internal/reflectlite.Value).Type", "(internal/reflectlite.Value).IsNil", "internal/reflectlite.TypeOf", "(internal/reflectlite.Value).Elem", "(internal/reflectlite.Value).Set"], unfollowed := true, recurses := true, named := ["errors.errorType"], plainKeys := false, apart := false, laid := [("errors.errorType", laid_errors_errorType)], narrowed := true }
def OathAllUptoSaid : Prop := oathAllUptoRow.holds Tryd.pinned (OpenSpec.upto oathAllSpec)

/-- 'bayoulaw03.OathOrder', WHERE WHAT IT READS IS OF BULK AT MOST 1048576: true; the input reads as it did. -/
def oathOrderUptoRow : OpenClaim := { program := "ytniihnncgblocaadoor", sum := "d158170bbdb4a6f47f59939284e744b8645a79532de8376170f59f2a89d662a0", func := "bayou/bayoulaw03.OathOrder", spec := "oathOrder", inPlace := ["slices.overlaps[int]", "internal/reflectlite.ValueOf", "(internal/reflectlite.Value).Type", "(internal/reflectlite.Value).IsNil", "internal/reflectlite.TypeOf", "(internal/reflectlite.Value).Elem", "(internal/reflectlite.Value).Set"], unfollowed := true, recurses := true, named := ["errors.errorType"], plainKeys := false, apart := false, laid := [("errors.errorType", laid_errors_errorType)], narrowed := true }
def OathOrderUptoSaid : Prop := oathOrderUptoRow.holds Tryd.pinned (OpenSpec.upto oathOrderSpec)

/-- 'bayoulaw03.OathStays', WHERE WHAT IT READS IS OF BULK AT MOST 1048576: true; the input reads as it did. -/
def oathStaysUptoRow : OpenClaim := { program := "ytniihnncgblocaadoor", sum := "d158170bbdb4a6f47f59939284e744b8645a79532de8376170f59f2a89d662a0", func := "bayou/bayoulaw03.OathStays", spec := "oathStays", inPlace := ["slices.overlaps[int]", "internal/reflectlite.ValueOf", "(internal/reflectlite.Value).Type", "(internal/reflectlite.Value).IsNil", "internal/reflectlite.TypeOf", "(internal/reflectlite.Value).Elem", "(internal/reflectlite.Value).Set", "maps.clone"], unfollowed := true, recurses := true, named := ["errors.errorType"], plainKeys := false, apart := false, laid := [("errors.errorType", laid_errors_errorType)], narrowed := true }
def OathStaysUptoSaid : Prop := oathStaysUptoRow.holds Tryd.pinned (OpenSpec.upto oathStaysSpec)

/-- 'bayoulaw03.OathRuns', WHERE WHAT IT READS IS OF BULK AT MOST 1048576: true; the input reads as it did. -/
def oathRunsUptoRow : OpenClaim := { program := "ytniihnncgblocaadoor", sum := "d158170bbdb4a6f47f59939284e744b8645a79532de8376170f59f2a89d662a0", func := "bayou/bayoulaw03.OathRuns", spec := "oathRuns", inPlace := ["slices.overlaps[int]", "internal/reflectlite.ValueOf", "(internal/reflectlite.Value).Type", "(internal/reflectlite.Value).IsNil", "internal/reflectlite.TypeOf", "(internal/reflectlite.Value).Elem", "(internal/reflectlite.Value).Set", "maps.clone"], unfollowed := true, recurses := true, named := ["errors.errorType"], plainKeys := false, apart := false, laid := [("errors.errorType", laid_errors_errorType)], narrowed := true }
def OathRunsUptoSaid : Prop := oathRunsUptoRow.holds Tryd.pinned (OpenSpec.upto oathRunsSpec)

end Rows
end Go.Proofs.YtniihnncgblocaaDoor
