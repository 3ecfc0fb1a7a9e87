/-
  What every row's proof of this seat asks first.
-/
import Derived.Test.YtgeocehgobcdjaaVRow
import Derived.Test.YtgeocehgobcdjaaRows
namespace Go.Proofs.Ytgeocehgobcdjaa
open Go.Proofs.Ytgeocehgobcdjaa.V
open Go.ChangeShapes Go.WideShapes Go.ChangeAt Go.RowKit

theorem own : ownKnob Try.prog.godebug = none := by kernel_rfl
theorem laidOut : laidOutB Try.prog = true := by kernel_rfl

/-- What a row of these asks of a walk: true, and of what was there nothing has turned. -/
theorem calls_old {f : FuncId} {args : Array Value} {W : World} (h : @Does Try.prog f args W fun r w' => r = .bool true ∧ @SL (streams W) w' (oldL W)) :
    Calls Try.prog f args W fun e W' => e = .returned (.bool true) ∧ Below W.heap.size W W' :=
  h.calls.mono fun e w' ⟨v, he, hv, hs⟩ => ⟨by rw [he, hv], old_below hs⟩

end Go.Proofs.Ytgeocehgobcdjaa
