/-
  Piece 15, reckoned.
-/
import Derived.Test.YtdppnaahdilkcaaGreatDoorRa0
import Derived.Test.YtdppnaahdilkcaaGreatDoorM10
namespace Go.K.Ra
open Go.K

theorem r15 : chk (callV Go.Proofs.Tryz.prog (prP [] Go.Proofs.YtdppnaahdilkcaaGreatDoor.Kp.prims) (exec Go.Proofs.Tryz.prog (prP [] Go.Proofs.YtdppnaahdilkcaaGreatDoor.Kp.prims) 100000) q15.f q15.args (layL q15.l ⟨.nil, q15.nx⟩)) q15.v q15.nx' q15.l' = true := by decide +kernel

end Go.K.Ra
