/-
  The rows' premises at this program: the table 'order' as the rows list it, and a world that holds it.
-/
import Derived.Test.YtfohpgbeongjfaaDoorBlakeLaws
import Derived.Test.YtfohpgbeongjfaaDoorVRow
import Derived.Test.YtfohpgbeongjfaaDoorCards
import Derived.Test.YtfohpgbeongjfaaDoorTie
namespace Go.Proofs.YtfohpgbeongjfaaDoor
open Go.Proofs.YtfohpgbeongjfaaDoor.V
open Go.ChangeShapes Go.WideShapes Go.ChangeAt Go.RowKit

theorem own : ownKnob Tryd.prog.godebug = none := by kernel_rfl
theorem laidOut : laidOutB Tryd.prog = true := by kernel_rfl
theorem gOrder : Tryd.prog.globalNamed "bayou/blake.order" = some 1 := by kernel_rfl

/-- The table's rows, as integers. -/
def orderRows : List (List Int) := sigma.map fun l => l.map Int.ofNat

theorem orderRows_at {r i : Nat} (hr : r < 10) (hi : i < 16) : ∃ row, orderRows[r]? = some row ∧ row[i]? = some ((sg r i : Nat) : Int) := by
  have : ∀ r : Fin 10, ∀ i : Fin 16, ((orderRows[r.val]?).bind fun row => row[i.val]?) = some ((sg r.val i.val : Nat) : Int) := by decide
  have h := this ⟨r, hr⟩ ⟨i, hi⟩
  simp only [Option.bind_eq_some_iff] at h
  exact h

theorem order_in {W : World} (h : laidMet Tryd.prog [("bayou/blake.order", Rows.laid_bayou_blake_order)] W) : OrderIn (oldL W) := by
  obtain ⟨ps, ⟨g', t', cs, fuel, p, q, hg', ht', hvar, hd, _, _⟩, _⟩ := h
  obtain rfl := Option.some.inj (gOrder.symm.trans hg')
  obtain rfl := Option.some.inj ((show (Tryd.prog.globals[1]?).map (·.type) = some 82 by kernel_rfl).symm.trans ht')
  intro r i hr hi
  obtain ⟨row, h1, h2⟩ := orderRows_at hr hi
  have hc := cells_of_tab2 (n := 10) (m := 16) (q := 5) (k := .u8) (rows := orderRows) (by kernel_rfl : Tryd.prog.underlying 82 = some (.array 10 81)) (by kernel_rfl) (by kernel_rfl) (by kernel_rfl) (by kernel_rfl) hd r i row _ h1 h2
  refine old_rd ?_
  rw [World.var?_cell gOrder hvar, Nat.mul_comm 16 r]
  simpa using hc

/-- What a row of these four asks of a walk: true, and of what was there nothing has turned. -/
theorem calls_old {f : FuncId} {args : Array Value} {W : World} (h : @Does Tryd.prog f args W fun r w' => r = .bool true ∧ @SL (streams W) w' (oldL W)) :
    Calls Tryd.prog f args W fun e w' => e = .returned (.bool true) ∧ Below W.heap.size W w' :=
  h.calls.mono fun e w' ⟨v, he, hv, hs⟩ => ⟨by rw [he, hv], old_below hs⟩

/-- A world for the witness: the settled one, the table holding what its initialiser lays. -/
noncomputable def laidWorld (os : Os) : World :=
  { World.holding Tryd.prog os ⟨#[], #[], []⟩ with heap := (World.holding Tryd.prog os ⟨#[], #[], []⟩).heap.modify 1 fun
      | .cells _ t frozen => .cells ((orderRows.flatMap fun l => l.map (Value.int .u8)).toArray) t frozen
      | o => o }

end Go.Proofs.YtfohpgbeongjfaaDoor
