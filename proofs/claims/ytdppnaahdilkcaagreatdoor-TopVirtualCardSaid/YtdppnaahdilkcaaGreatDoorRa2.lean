/-
  Piece 2, reckoned.
-/
import Derived.Test.YtdppnaahdilkcaaGreatDoorRa0
import Derived.Test.YtdppnaahdilkcaaGreatDoorM10
namespace Go.K.Ra
open Go.K

theorem r2 : chk (callV Go.Proofs.Tryz.prog (prP [] Go.Proofs.YtdppnaahdilkcaaGreatDoor.Kp.prims) (exec Go.Proofs.Tryz.prog (prP [] Go.Proofs.YtdppnaahdilkcaaGreatDoor.Kp.prims) 100000) q2.f q2.args (layL q2.l ⟨.nil, q2.nx⟩)) q2.v q2.nx' q2.l' = true := by decide +kernel

end Go.K.Ra
