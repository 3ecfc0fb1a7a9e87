/-
  The variable errors.errorType, as the rows list it: what a walk reads there.
-/
import Derived.Test.YtniihnncgblocaaDoorNumS
import Derived.Test.YtniihnncgblocaaDoorVRow
import Derived.Test.YtniihnncgblocaaDoorRows
import Derived.LaidHandle
namespace Go.Proofs.YtniihnncgblocaaDoor
open Go.Proofs.YtniihnncgblocaaDoor.V

theorem err_name : Tryd.prog.globalNamed "errors.errorType" = some 0 := by kernel_rfl
theorem err_rt : (Tryd.prog.cutTypes.find? (·.1 == "internal/reflectlite.rtype")).map (·.2) = some 87 := by kernel_rfl
theorem err_one : ((List.range 130).filter fun t => Tryd.prog.rowNamed t [101, 114, 114, 111, 114]) = [34] := by kernel_rfl
theorem err_size : Tryd.prog.types.size = 130 := by kernel_rfl

theorem err_in {W : World} (h : handlesMet Tryd.prog [("errors.errorType", Rows.laid_errors_errorType)] W) : ErrIn (oldL W) := by
  obtain ⟨name, u, ty, e1, e2, e3, e4, e5⟩ := h _ (List.mem_singleton.2 rfl)
  have en : name = [101, 114, 114, 111, 114] := (Option.some.inj e1).symm
  subst en
  obtain rfl := Option.some.inj (err_rt.symm.trans e2)
  have hm : ty ∈ (List.range 130).filter fun t => Tryd.prog.rowNamed t [101, 114, 114, 111, 114] := List.mem_filter.2 ⟨List.mem_range.2 (by rw [← err_size]; exact e3), e4⟩
  rw [err_one] at hm
  obtain rfl := List.mem_singleton.1 hm
  have hh : typeHandle Tryd.prog 34 = .pointer (some ⟨1, 34, none⟩) := by kernel_rfl
  rw [hh] at e5
  refine old_rd ?_
  simpa using World.var?_cell err_name e5 0

end Go.Proofs.YtniihnncgblocaaDoor
