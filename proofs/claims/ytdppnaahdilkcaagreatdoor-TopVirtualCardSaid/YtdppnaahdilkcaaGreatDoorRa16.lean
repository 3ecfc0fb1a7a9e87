/-
  Piece 16, reckoned.
-/
import Derived.Test.YtdppnaahdilkcaaGreatDoorRa0
import Derived.Test.YtdppnaahdilkcaaGreatDoorM10
namespace Go.K.Ra
open Go.K

theorem r16 : chk (callV Go.Proofs.Tryz.prog (prP [q14, q15] Go.Proofs.YtdppnaahdilkcaaGreatDoor.Kp.prims) (exec Go.Proofs.Tryz.prog (prP [q14, q15] Go.Proofs.YtdppnaahdilkcaaGreatDoor.Kp.prims) 100000) q16.f q16.args (layL q16.l ⟨.nil, q16.nx⟩)) q16.v q16.nx' q16.l' = true := by decide +kernel

end Go.K.Ra
