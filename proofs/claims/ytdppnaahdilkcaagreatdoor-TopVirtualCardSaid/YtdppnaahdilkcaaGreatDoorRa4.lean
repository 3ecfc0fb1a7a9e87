/-
  Piece 4, reckoned.
-/
import Derived.Test.YtdppnaahdilkcaaGreatDoorRa0
import Derived.Test.YtdppnaahdilkcaaGreatDoorM10
namespace Go.K.Ra
open Go.K

theorem r4 : chk (callV Go.Proofs.Tryz.prog (prP [] Go.Proofs.YtdppnaahdilkcaaGreatDoor.Kp.prims) (exec Go.Proofs.Tryz.prog (prP [] Go.Proofs.YtdppnaahdilkcaaGreatDoor.Kp.prims) 100000) q4.f q4.args (layL q4.l ⟨.nil, q4.nx⟩)) q4.v q4.nx' q4.l' = true := by decide +kernel

end Go.K.Ra
