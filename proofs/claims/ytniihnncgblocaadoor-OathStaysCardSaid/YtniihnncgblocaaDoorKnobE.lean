/-
  What every row's proof of this seat asks first; the variable errors.errorType, and a world that holds it.
-/
import Derived.Test.YtniihnncgblocaaDoorVRow
import Derived.Test.YtniihnncgblocaaDoorErr
import Derived.Test.YtniihnncgblocaaDoorCards
import Derived.Test.YtniihnncgblocaaDoorTie
namespace Go.Proofs.YtniihnncgblocaaDoor
open Go.Proofs.YtniihnncgblocaaDoor.V
open Go.ChangeShapes Go.WideShapes Go.ChangeAt Go.RowKit

theorem own : ownKnob Tryd.prog.godebug = none := by kernel_rfl
theorem laidOut : laidOutB Tryd.prog = true := by kernel_rfl

/-- What a row of these asks of a walk: true, and of what was there nothing has turned. -/
theorem calls_old {f : FuncId} {args : Array Value} {W : World} (h : @Does Tryd.prog f args W fun r w' => r = .bool true ∧ @SL (streams W) w' (oldL W)) :
    Calls Tryd.prog f args W fun e W' => e = .returned (.bool true) ∧ Below W.heap.size W W' :=
  h.calls.mono fun e w' ⟨v, he, hv, hs⟩ => ⟨by rw [he, hv], old_below hs⟩

/-- A world for the witness. -/
noncomputable def errWorld (os : Os) : World :=
  { World.holding Tryd.prog os ⟨#[], #[], []⟩ with heap := (World.holding Tryd.prog os ⟨#[], #[], []⟩).heap.modify 0 fun
      | .cells _ t frozen => .cells #[.iface 87 (.agg #[.pointer (some ⟨1, 34, none⟩)])] t frozen
      | o => o }

theorem err_only {W : World} (h : laidMetH Tryd.prog [("errors.errorType", Rows.laid_errors_errorType)] W) : ErrIn (oldL W) := by
  have h' : laidMet Tryd.prog [] W ∧ handlesMet Tryd.prog [("errors.errorType", Rows.laid_errors_errorType)] W := h
  exact err_in h'.2

end Go.Proofs.YtniihnncgblocaaDoor
