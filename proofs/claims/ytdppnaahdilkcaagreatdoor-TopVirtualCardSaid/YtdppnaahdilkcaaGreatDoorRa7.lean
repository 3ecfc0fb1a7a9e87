/-
  Piece 7, reckoned.
-/
import Derived.Test.YtdppnaahdilkcaaGreatDoorRa0
import Derived.Test.YtdppnaahdilkcaaGreatDoorM10
namespace Go.K.Ra
open Go.K

theorem r7 : chk (callV Go.Proofs.Tryz.prog (prP [] Go.Proofs.YtdppnaahdilkcaaGreatDoor.Kp.prims) (exec Go.Proofs.Tryz.prog (prP [] Go.Proofs.YtdppnaahdilkcaaGreatDoor.Kp.prims) 100000) q7.f q7.args (layL q7.l ⟨.nil, q7.nx⟩)) q7.v q7.nx' q7.l' = true := by decide +kernel

end Go.K.Ra
