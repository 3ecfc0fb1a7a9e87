/-
  TopVirtual: the closed facts that its row asks of the program, one by one.
-/
import Derived.Test.YtdppnaahdilkcaaGreatDoorM11
namespace Go.Proofs.YtdppnaahdilkcaaGreatDoor
open Go

theorem fk1 : (Rows.topVirtualRow.wf (OpenSpec.ofChange (OpenSpec.ofChange Rows.topVirtualSpec).bare)) = true := by kernel_rfl
theorem fk2 : (laidOutB Tryz.pinned.checked.prog) = true := by kernel_rfl
theorem fk3 : (mapsRowed Tryz.pinned.checked.prog) = true := by kernel_rfl
theorem fk4 : (Tryz.f3.params.all (Tryz.pinned.checked.prog.readableRec ·)) = true := by kernel_rfl
theorem fk5 : (namedTie Tryz.pinned.checked.prog Rows.topVirtualRow.named (OpenSpec.ofChange Rows.topVirtualSpec).bare.vars) = true := by kernel_rfl
theorem fk6 : (Rows.topVirtualRow.stops == []) = true := by kernel_rfl
theorem fk7 : (Tryz.pinned.checked.prog.stops == []) = true := by kernel_rfl
theorem fk8 : (Rows.topVirtualRow.knobs == []) = true := by kernel_rfl
theorem fk9 : (Tryz.pinned.checked.prog.stopKnobs == []) = true := by kernel_rfl
theorem fk10 : (Rows.topVirtualRow.inPlace == Tryz.pinned.checked.prog.inPlace 3) = true := by kernel_rfl
theorem fk11 : (Rows.topVirtualRow.unfollowed == Tryz.pinned.checked.prog.unfollowed 3) = true := by kernel_rfl
theorem fk12 : (Rows.topVirtualRow.recurses == Tryz.pinned.checked.prog.recurses 3) = true := by kernel_rfl
theorem fk13 : (Rows.topVirtualRow.named == Tryz.pinned.checked.prog.varsNamed 3) = true := by kernel_rfl
theorem fk14 : (Rows.topVirtualRow.maps == (Tryz.f3.params.toList ++ (OpenSpec.ofChange Rows.topVirtualSpec).bare.plain.varTypes Tryz.pinned.checked.prog).any (Tryz.pinned.checked.prog.mapsRec ·)) = true := by kernel_rfl
theorem fk15 : (Rows.topVirtualRow.ifaces == (Tryz.f3.params.toList ++ (OpenSpec.ofChange Rows.topVirtualSpec).bare.plain.varTypes Tryz.pinned.checked.prog).any (Tryz.pinned.checked.prog.ifacesRec ·)) = true := by kernel_rfl
theorem fk16 : (Rows.topVirtualRow.mapsOut == Tryz.pinned.checked.prog.mapsAmong Tryz.f3.resultTypes.toList) = true := by kernel_rfl
theorem fk17 : (Rows.topVirtualRow.loops == (Tryz.f3.params.toList ++ (OpenSpec.ofChange Rows.topVirtualSpec).bare.plain.varTypes Tryz.pinned.checked.prog).any (Tryz.pinned.checked.prog.loopsFrom ·)) = true := by kernel_rfl
theorem fk18 : (Rows.topVirtualRow.wideKeys == (Tryz.f3.params.toList ++ (OpenSpec.ofChange Rows.topVirtualSpec).bare.plain.varTypes Tryz.pinned.checked.prog ++ Tryz.f3.resultTypes.toList).any (Tryz.pinned.checked.prog.wideKeysFrom ·)) = true := by kernel_rfl
theorem fk19 : ((OpenSpec.ofChange Rows.topVirtualSpec).bare.vars.all (Tryz.pinned.checked.prog.varReadable ·)) = true := by kernel_rfl
theorem fk20 : (Tryz.f3.resultTypes.all (fun t => Tryz.pinned.checked.prog.readableRec t && decide (t < Tryz.pinned.checked.prog.types.size))) = true := by kernel_rfl
theorem fk21 : (Rows.topVirtualRow.ifacesOut == Tryz.f3.resultTypes.toList.any (Tryz.pinned.checked.prog.ifacesRec ·)) = true := by kernel_rfl
theorem fk22 : (Rows.topVirtualRow.loopsOut == Tryz.f3.resultTypes.toList.any (Tryz.pinned.checked.prog.loopsFrom ·)) = true := by kernel_rfl
theorem fk23 : (Rows.topVirtualRow.plainKeys == Tryz.pinned.checked.prog.plainKeys) = true := by kernel_rfl
theorem fk24 : (Rows.topVirtualRow.shortTexts.isNone) = true := by kernel_rfl
theorem fk25 : (Tryz.pinned.checked.prog.stopsHeard) = true := by kernel_rfl
theorem fk26 : (Tryz.pinned.checked.prog.mayEnter) = true := by kernel_rfl
theorem fk27 : (Rows.topVirtualRow.lifted == Tryz.pinned.checked.prog.liftsFinal) = true := by kernel_rfl
theorem fk28 : (Tryz.pinned.checked.prog.make == some Rows.topVirtualRow.make) = true := by kernel_rfl
theorem fk29 : (Rows.topVirtualRow.kinds == (if Rows.topVirtualRow.domain.isEmpty then [] else Tryz.f3.params.toList.map fun t => match Tryz.pinned.checked.prog.underlying t with | some (.int k) => some k | _ => none)) = true := by kernel_rfl
theorem fk30 : (Rows.topVirtualRow.pinned == Rows.topVirtualRow.pinnedBy) = true := by kernel_rfl
theorem fk31 : (Rows.topVirtualRow.veiled == (Tryz.f3.params.toList ++ (OpenSpec.ofChange Rows.topVirtualSpec).bare.plain.varTypes Tryz.pinned.checked.prog ++ Tryz.f3.resultTypes.toList).any (Tryz.pinned.checked.prog.veiledRec ·)) = true := by kernel_rfl
theorem fk32 : (Rows.topVirtualRow.veiledFits Tryz.pinned.checked.prog Tryz.f3.params.toList (Tryz.f3.params.toList ++ (OpenSpec.ofChange Rows.topVirtualSpec).bare.plain.varTypes Tryz.pinned.checked.prog ++ Tryz.f3.resultTypes.toList)) = true := by kernel_rfl

end Go.Proofs.YtdppnaahdilkcaaGreatDoor
