/-
  Piece 3, reckoned.
-/
import Derived.Test.YtdppnaahdilkcaaGreatDoorRa0
import Derived.Test.YtdppnaahdilkcaaGreatDoorM10
namespace Go.K.Ra
open Go.K

theorem r3 : chk (callV Go.Proofs.Tryz.prog (prP [q2] Go.Proofs.YtdppnaahdilkcaaGreatDoor.Kp.prims) (exec Go.Proofs.Tryz.prog (prP [q2] Go.Proofs.YtdppnaahdilkcaaGreatDoor.Kp.prims) 100000) q3.f q3.args (layL q3.l ⟨.nil, q3.nx⟩)) q3.v q3.nx' q3.l' = true := by decide +kernel

end Go.K.Ra
