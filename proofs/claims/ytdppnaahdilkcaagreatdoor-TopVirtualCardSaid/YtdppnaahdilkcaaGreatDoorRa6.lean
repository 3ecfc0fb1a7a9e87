/-
  Piece 6, reckoned.
-/
import Derived.Test.YtdppnaahdilkcaaGreatDoorRa0
import Derived.Test.YtdppnaahdilkcaaGreatDoorM10
namespace Go.K.Ra
open Go.K

theorem r6 : chk (callV Go.Proofs.Tryz.prog (prP [q1, q3, q4, q5] Go.Proofs.YtdppnaahdilkcaaGreatDoor.Kp.prims) (exec Go.Proofs.Tryz.prog (prP [q1, q3, q4, q5] Go.Proofs.YtdppnaahdilkcaaGreatDoor.Kp.prims) 100000) q6.f q6.args (layL q6.l ⟨.nil, q6.nx⟩)) q6.v q6.nx' q6.l' = true := by decide +kernel

end Go.K.Ra
