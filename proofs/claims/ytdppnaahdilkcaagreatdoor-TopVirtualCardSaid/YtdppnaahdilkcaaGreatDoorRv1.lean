/-
  Piece 1, reckoned.
-/
import Derived.Test.YtdppnaahdilkcaaGreatDoorRv0
import Derived.Test.YtdppnaahdilkcaaGreatDoorM10
namespace Go.K.Rv
open Go.K

theorem r1 : chk (callV Go.Proofs.Tryz.prog (prP [] Go.Proofs.YtdppnaahdilkcaaGreatDoor.Kp.prims) (exec Go.Proofs.Tryz.prog (prP [] Go.Proofs.YtdppnaahdilkcaaGreatDoor.Kp.prims) 100000) q1.f q1.args (layL q1.l ⟨.nil, q1.nx⟩)) q1.v q1.nx' q1.l' = true := by decide +kernel

end Go.K.Rv
