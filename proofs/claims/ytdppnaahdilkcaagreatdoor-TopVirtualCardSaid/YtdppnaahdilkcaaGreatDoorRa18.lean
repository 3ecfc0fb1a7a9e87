/-
  Piece 18, reckoned.
-/
import Derived.Test.YtdppnaahdilkcaaGreatDoorRa0
import Derived.Test.YtdppnaahdilkcaaGreatDoorM10
namespace Go.K.Ra
open Go.K

theorem r18 : chk (callV Go.Proofs.Tryz.prog (prP [q17] Go.Proofs.YtdppnaahdilkcaaGreatDoor.Kp.prims) (exec Go.Proofs.Tryz.prog (prP [q17] Go.Proofs.YtdppnaahdilkcaaGreatDoor.Kp.prims) 100000) q18.f q18.args (layL q18.l ⟨.nil, q18.nx⟩)) q18.v q18.nx' q18.l' = true := by decide +kernel

end Go.K.Ra
