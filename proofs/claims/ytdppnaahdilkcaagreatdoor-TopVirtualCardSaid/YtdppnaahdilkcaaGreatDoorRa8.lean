/-
  Piece 8, reckoned.
-/
import Derived.Test.YtdppnaahdilkcaaGreatDoorRa0
import Derived.Test.YtdppnaahdilkcaaGreatDoorM10
namespace Go.K.Ra
open Go.K

theorem r8 : chk (callV Go.Proofs.Tryz.prog (prP [q7] Go.Proofs.YtdppnaahdilkcaaGreatDoor.Kp.prims) (exec Go.Proofs.Tryz.prog (prP [q7] Go.Proofs.YtdppnaahdilkcaaGreatDoor.Kp.prims) 100000) q8.f q8.args (layL q8.l ⟨.nil, q8.nx⟩)) q8.v q8.nx' q8.l' = true := by decide +kernel

end Go.K.Ra
