/-
  Piece 13, reckoned.
-/
import Derived.Test.YtdppnaahdilkcaaGreatDoorRa0
import Derived.Test.YtdppnaahdilkcaaGreatDoorM10
namespace Go.K.Ra
open Go.K

theorem r13 : chk (callV Go.Proofs.Tryz.prog (prP [q11, q12] Go.Proofs.YtdppnaahdilkcaaGreatDoor.Kp.prims) (exec Go.Proofs.Tryz.prog (prP [q11, q12] Go.Proofs.YtdppnaahdilkcaaGreatDoor.Kp.prims) 100000) q13.f q13.args (layL q13.l ⟨.nil, q13.nx⟩)) q13.v q13.nx' q13.l' = true := by decide +kernel

end Go.K.Ra
