/-
  Piece 19, reckoned.
-/
import Derived.Test.YtdppnaahdilkcaaGreatDoorRa0
import Derived.Test.YtdppnaahdilkcaaGreatDoorM10
namespace Go.K.Ra
open Go.K

theorem r19 : chk (callV Go.Proofs.Tryz.prog (prP [q6, q8, q9, q10, q13, q16, q18] Go.Proofs.YtdppnaahdilkcaaGreatDoor.Kp.prims) (exec Go.Proofs.Tryz.prog (prP [q6, q8, q9, q10, q13, q16, q18] Go.Proofs.YtdppnaahdilkcaaGreatDoor.Kp.prims) 100000) q19.f q19.args (layL q19.l ⟨.nil, q19.nx⟩)) q19.v q19.nx' q19.l' = true := by decide +kernel

end Go.K.Ra
