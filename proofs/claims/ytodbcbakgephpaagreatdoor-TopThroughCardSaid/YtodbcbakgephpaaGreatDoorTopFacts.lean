/-
  TopThrough: the closed facts that its row asks of the program, one by one.
-/
import Derived.Test.YtodbcbakgephpaaGreatDoorM11
namespace Go.Proofs.YtodbcbakgephpaaGreatDoor
open Go

theorem fk1 : (Rows.topThroughRow.wf (OpenSpec.ofChange (OpenSpec.ofChange Rows.topThroughSpec).bare)) = true := by kernel_rfl
theorem fk2 : (laidOutB Tryz.pinned.checked.prog) = true := by kernel_rfl
theorem fk3 : (mapsRowed Tryz.pinned.checked.prog) = true := by kernel_rfl
theorem fk4 : (Tryz.f3.params.all (Tryz.pinned.checked.prog.readableRec ·)) = true := by kernel_rfl
theorem fk5 : (namedTie Tryz.pinned.checked.prog Rows.topThroughRow.named (OpenSpec.ofChange Rows.topThroughSpec).bare.vars) = true := by kernel_rfl
theorem fk6 : ((Rows.topThroughRow.stops == [])) = true := by kernel_rfl
theorem fk7 : ((Tryz.pinned.checked.prog.stops == [])) = true := by kernel_rfl
theorem fk8 : ((Rows.topThroughRow.knobs == [])) = true := by kernel_rfl
theorem fk9 : ((Tryz.pinned.checked.prog.stopKnobs == [])) = true := by kernel_rfl
theorem fk10 : ((Rows.topThroughRow.inPlace == Tryz.pinned.checked.prog.inPlace 3)) = true := by kernel_rfl
theorem fk11 : ((Rows.topThroughRow.unfollowed == Tryz.pinned.checked.prog.unfollowed 3)) = true := by kernel_rfl
theorem fk12 : ((Rows.topThroughRow.recurses == Tryz.pinned.checked.prog.recurses 3)) = true := by kernel_rfl
theorem fk13 : ((Rows.topThroughRow.named == Tryz.pinned.checked.prog.varsNamed 3)) = true := by kernel_rfl
theorem fk14 : ((Rows.topThroughRow.maps == (Tryz.f3.params.toList ++ (OpenSpec.ofChange Rows.topThroughSpec).bare.plain.varTypes Tryz.pinned.checked.prog).any (Tryz.pinned.checked.prog.mapsRec ·))) = true := by kernel_rfl
theorem fk15 : ((Rows.topThroughRow.ifaces == (Tryz.f3.params.toList ++ (OpenSpec.ofChange Rows.topThroughSpec).bare.plain.varTypes Tryz.pinned.checked.prog).any (Tryz.pinned.checked.prog.ifacesRec ·))) = true := by kernel_rfl
theorem fk16 : ((Rows.topThroughRow.mapsOut == Tryz.pinned.checked.prog.mapsAmong Tryz.f3.resultTypes.toList)) = true := by kernel_rfl
theorem fk17 : ((Rows.topThroughRow.loops == (Tryz.f3.params.toList ++ (OpenSpec.ofChange Rows.topThroughSpec).bare.plain.varTypes Tryz.pinned.checked.prog).any (Tryz.pinned.checked.prog.loopsFrom ·))) = true := by kernel_rfl
theorem fk18 : ((Rows.topThroughRow.wideKeys == (Tryz.f3.params.toList ++ (OpenSpec.ofChange Rows.topThroughSpec).bare.plain.varTypes Tryz.pinned.checked.prog ++ Tryz.f3.resultTypes.toList).any (Tryz.pinned.checked.prog.wideKeysFrom ·))) = true := by kernel_rfl
theorem fk19 : ((OpenSpec.ofChange Rows.topThroughSpec).bare.vars.all (Tryz.pinned.checked.prog.varReadable ·)) = true := by kernel_rfl
theorem fk20 : (Tryz.f3.resultTypes.all (fun t => Tryz.pinned.checked.prog.readableRec t && decide (t < Tryz.pinned.checked.prog.types.size))) = true := by kernel_rfl
theorem fk21 : ((Rows.topThroughRow.ifacesOut == Tryz.f3.resultTypes.toList.any (Tryz.pinned.checked.prog.ifacesRec ·))) = true := by kernel_rfl
theorem fk22 : ((Rows.topThroughRow.loopsOut == Tryz.f3.resultTypes.toList.any (Tryz.pinned.checked.prog.loopsFrom ·))) = true := by kernel_rfl
theorem fk23 : ((Rows.topThroughRow.plainKeys == Tryz.pinned.checked.prog.plainKeys)) = true := by kernel_rfl
theorem fk24 : (Rows.topThroughRow.shortTexts.isNone) = true := by kernel_rfl
theorem fk25 : (Tryz.pinned.checked.prog.stopsHeard) = true := by kernel_rfl
theorem fk26 : (Tryz.pinned.checked.prog.mayEnter) = true := by kernel_rfl
theorem fk27 : ((Rows.topThroughRow.lifted == Tryz.pinned.checked.prog.liftsFinal)) = true := by kernel_rfl
theorem fk28 : ((Tryz.pinned.checked.prog.make == some Rows.topThroughRow.make)) = true := by kernel_rfl
theorem fk29 : ((Rows.topThroughRow.kinds == (if Rows.topThroughRow.domain.isEmpty then [] else Tryz.f3.params.toList.map fun t => match Tryz.pinned.checked.prog.underlying t with | some (.int k) => some k | _ => none))) = true := by kernel_rfl
theorem fk30 : ((Rows.topThroughRow.pinned == Rows.topThroughRow.pinnedBy)) = true := by kernel_rfl
theorem fk31 : ((Rows.topThroughRow.veiled == (Tryz.f3.params.toList ++ (OpenSpec.ofChange Rows.topThroughSpec).bare.plain.varTypes Tryz.pinned.checked.prog ++ Tryz.f3.resultTypes.toList).any (Tryz.pinned.checked.prog.veiledRec ·))) = true := by kernel_rfl
theorem fk32 : (Rows.topThroughRow.veiledFits Tryz.pinned.checked.prog Tryz.f3.params.toList (Tryz.f3.params.toList ++ (OpenSpec.ofChange Rows.topThroughSpec).bare.plain.varTypes Tryz.pinned.checked.prog ++ Tryz.f3.resultTypes.toList)) = true := by kernel_rfl

end Go.Proofs.YtodbcbakgephpaaGreatDoor
