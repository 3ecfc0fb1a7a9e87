/-
  The proof's parts, in one file: TopRows, Join.
-/
import Derived.Test.YtodbcbakgephpaaGreatDoorM8
import Derived.Test.YtodbcbakgephpaaGreatDoorM2
import Derived.Test.YtodbcbakgephpaaGreatDoorCards
import Derived.Test.YtodbcbakgephpaaGreatDoorTie
import Derived.ChangeMaps5
import Derived.JoinedCond
import Derived.SevenTiedAt

section
/-
  The rows' premises at the top: the table 'order' as the rows list it, and a world that holds it and the library's three.
-/
namespace Go.Proofs.YtodbcbakgephpaaGreatDoor
open Go.Proofs.YtodbcbakgephpaaGreatDoor.V
open Go.Proofs.YtodbcbakgephpaaGreatDoor.Bl
open Go.ChangeShapes Go.WideShapes Go.ChangeAt Go.RowKit

theorem own : ownKnob Tryz.prog.godebug = none := by kernel_rfl
theorem laidOut : laidOutB Tryz.prog = true := by kernel_rfl
theorem gOrder : Tryz.prog.globalNamed "bayou/blake.order" = some 0 := by kernel_rfl

/-- The table's rows, as integers. -/
def orderRows : List (List Int) := sigma.map fun l => l.map Int.ofNat

theorem orderRows_at {r i : Nat} (hr : r < 10) (hi : i < 16) : ∃ row, orderRows[r]? = some row ∧ row[i]? = some ((sg r i : Nat) : Int) := by
  have : ∀ r : Fin 10, ∀ i : Fin 16, ((orderRows[r.val]?).bind fun row => row[i.val]?) = some ((sg r.val i.val : Nat) : Int) := by decide
  have h := this ⟨r, hr⟩ ⟨i, hi⟩
  simp only [Option.bind_eq_some_iff] at h
  exact h

/-- Of all that is laid the table alone is read. -/
theorem order_in {W : World} (h : laidMetH Tryz.prog [("math/bits.deBruijn32tab", Rows.laid_math_bits_deBruijn32tab), ("math/bits.deBruijn64tab", Rows.laid_math_bits_deBruijn64tab), ("internal/strconv.uint64pow10", Rows.laid_internal_strconv_uint64pow10), ("bayou/blake.order", Rows.laid_bayou_blake_order)] W) : OrderIn (oldL W) := by
  have h' : laidMet Tryz.prog [("math/bits.deBruijn32tab", Rows.laid_math_bits_deBruijn32tab), ("math/bits.deBruijn64tab", Rows.laid_math_bits_deBruijn64tab), ("internal/strconv.uint64pow10", Rows.laid_internal_strconv_uint64pow10), ("bayou/blake.order", Rows.laid_bayou_blake_order)] W := h
  obtain ⟨ps, ⟨_, _, _, _, _, q1, _, _, _, _, ⟨_, _, _, _, _, q2, _, _, _, _, ⟨_, _, _, _, _, q3, _, _, _, _, ⟨g', t', cs, fuel, p, q, hg', ht', hvar, hd, _, _⟩, _⟩, _⟩, _⟩, _⟩ := h'
  obtain rfl := Option.some.inj (gOrder.symm.trans hg')
  obtain rfl := Option.some.inj ((show (Tryz.prog.globals[0]?).map (·.type) = some 161 by kernel_rfl).symm.trans ht')
  intro r i hr hi
  obtain ⟨row, h1, h2⟩ := orderRows_at hr hi
  have hc := cells_of_tab2 (n := 10) (m := 16) (q := 5) (k := .u8) (rows := orderRows) (by kernel_rfl : Tryz.prog.underlying 161 = some (.array 10 160)) (by kernel_rfl) (by kernel_rfl) (by kernel_rfl) (by kernel_rfl) hd r i row _ h1 h2
  refine old_rd ?_
  rw [World.var?_cell gOrder hvar, Nat.mul_comm 16 r]
  simpa using hc

/-- What every row asks of a walk: true, and of what was there nothing has turned. -/
theorem calls_old {f : FuncId} {args : Array Value} {W : World} (h : @Does Tryz.prog f args W fun r w' => r = .bool true ∧ @SL (streams W) w' (oldL W)) :
    Calls Tryz.prog f args W fun e w' => e = .returned (.bool true) ∧ Below W.heap.size W w' :=
  h.calls.mono fun e w' ⟨v, he, hv, hs⟩ => ⟨by rw [he, hv], old_below hs⟩

/-- The cells of what is laid: numbers; a row of them; rows of them. -/
def laidC1 : DataW Unit → List Value
  | .lit (.int k n) => [.int k n]
  | _ => []
def laidC2 : DataW Unit → List Value
  | .agg ps => ps.flatMap laidC1
  | _ => []
def laidC3 : DataW Unit → List Value
  | .agg ps => ps.flatMap laidC2
  | _ => []

/-- A variable's cells, put into a heap. -/
def layCs (cs : List Value) : Obj → Obj
  | .cells _ t frozen => .cells cs.toArray t frozen
  | o => o

/-- A world for the witness: the settled one, the four tables holding what their initialisers lay. -/
noncomputable def laidWorld4 (os : Os) : World :=
  { World.holding Tryz.prog os ⟨#[], #[], []⟩ with heap := ((((World.holding Tryz.prog os ⟨#[], #[], []⟩).heap.modify 0 (layCs (laidC3 Rows.laid_bayou_blake_order))).modify 3 (layCs (laidC2 Rows.laid_math_bits_deBruijn32tab))).modify 4 (layCs (laidC2 Rows.laid_math_bits_deBruijn64tab))).modify 1 (layCs (laidC2 Rows.laid_internal_strconv_uint64pow10)) }

end Go.Proofs.YtodbcbakgephpaaGreatDoor
end

section
/-
  What a row asks of a program by closed facts, fact by fact.
-/
namespace Go.Proofs.YtodbcbakgephpaaGreatDoor.V
open Go

theorem joined_of {P : Program} {f : FuncId} {fn : Func} {s : ChangeSpec} {c : OpenClaim}
    (k1 : (c.wf (OpenSpec.ofChange s)) = true)
    (k2 : (laidOutB P) = true)
    (k3 : (mapsRowed P) = true)
    (k4 : (fn.params.all (P.readableRec ·)) = true)
    (k5 : (namedTie P c.named s.vars) = true)
    (k6 : (c.stops == []) = true)
    (k7 : (P.stops == []) = true)
    (k8 : (c.knobs == []) = true)
    (k9 : (P.stopKnobs == []) = true)
    (k10 : (c.inPlace == P.inPlace f) = true)
    (k11 : (c.unfollowed == P.unfollowed f) = true)
    (k12 : (c.recurses == P.recurses f) = true)
    (k13 : (c.named == P.varsNamed f) = true)
    (k14 : (c.maps == (fn.params.toList ++ s.plain.varTypes P).any (P.mapsRec ·)) = true)
    (k15 : (c.ifaces == (fn.params.toList ++ s.plain.varTypes P).any (P.ifacesRec ·)) = true)
    (k16 : (c.mapsOut == P.mapsAmong fn.resultTypes.toList) = true)
    (k17 : (c.loops == (fn.params.toList ++ s.plain.varTypes P).any (P.loopsFrom ·)) = true)
    (k18 : (c.wideKeys == (fn.params.toList ++ s.plain.varTypes P ++ fn.resultTypes.toList).any (P.wideKeysFrom ·)) = true)
    (k19 : (s.vars.all (P.varReadable ·)) = true)
    (k20 : (fn.resultTypes.all (fun t => P.readableRec t && decide (t < P.types.size))) = true)
    (k21 : (c.ifacesOut == fn.resultTypes.toList.any (P.ifacesRec ·)) = true)
    (k22 : (c.loopsOut == fn.resultTypes.toList.any (P.loopsFrom ·)) = true)
    (k23 : (c.plainKeys == P.plainKeys) = true)
    (k24 : (c.shortTexts.isNone) = true)
    (k25 : (P.stopsHeard) = true)
    (k26 : (P.mayEnter) = true)
    (k27 : (c.lifted == P.liftsFinal) = true)
    (k28 : (P.make == some c.make) = true)
    (k29 : (c.kinds == (if c.domain.isEmpty then [] else fn.params.toList.map fun t => match P.underlying t with | some (.int k) => some k | _ => none)) = true)
    (k30 : (c.pinned == c.pinnedBy) = true)
    (k31 : (c.veiled == (fn.params.toList ++ s.plain.varTypes P ++ fn.resultTypes.toList).any (P.veiledRec ·)) = true)
    (k32 : (c.veiledFits P fn.params.toList (fn.params.toList ++ s.plain.varTypes P ++ fn.resultTypes.toList)) = true) : joinedFacts P f fn s c = true := by
  simp only [joinedFacts, Bool.and_eq_true]
  exact ⟨⟨⟨⟨⟨⟨⟨⟨⟨⟨⟨⟨⟨⟨⟨⟨⟨⟨⟨⟨⟨⟨⟨⟨⟨⟨⟨⟨⟨⟨⟨k1, k2⟩, k3⟩, k4⟩, k5⟩, k6⟩, k7⟩, k8⟩, k9⟩, k10⟩, k11⟩, k12⟩, k13⟩, k14⟩, k15⟩, k16⟩, k17⟩, k18⟩, k19⟩, k20⟩, k21⟩, k22⟩, k23⟩, k24⟩, k25⟩, k26⟩, k27⟩, k28⟩, k29⟩, k30⟩, k31⟩, k32⟩

end Go.Proofs.YtodbcbakgephpaaGreatDoor.V
end
