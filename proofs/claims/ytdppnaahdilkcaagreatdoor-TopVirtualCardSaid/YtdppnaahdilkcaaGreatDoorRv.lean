/-
  All pieces, joined.
-/
import Derived.Test.YtdppnaahdilkcaaGreatDoorRv1
namespace Go.Proofs.YtdppnaahdilkcaaGreatDoor.Rv
open Go.Proofs.YtdppnaahdilkcaaGreatDoor.V
open Go.K
open Go.K.Rv
open Go.Proofs.YtdppnaahdilkcaaGreatDoor.Kp

theorem hn : NoNum Go.Proofs.Tryz.prog := by
  unfold NoNum; decide +kernel
theorem hm : (Go.Proofs.Tryz.prog).follows .mixedOrders = true := rfl

theorem ok0 [Strm] : ∀ x ∈ ([] : List Piece), x.Ok Go.Proofs.Tryz.prog := fun x hx => absurd hx (by simp)

theorem ok1 [Strm] : q1.Ok Go.Proofs.Tryz.prog := Piece.run (run_ok hm hn (prP_ok prims_ok ok0)) q1 r1

/-- The last one. -/
noncomputable abbrev qL : Piece := q1
theorem okL [Strm] : qL.Ok Go.Proofs.Tryz.prog := ok1

end Go.Proofs.YtdppnaahdilkcaaGreatDoor.Rv
