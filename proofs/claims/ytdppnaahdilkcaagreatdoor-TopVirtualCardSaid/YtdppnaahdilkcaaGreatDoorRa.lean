/-
  All pieces, joined.
-/
import Derived.Test.YtdppnaahdilkcaaGreatDoorRa1
import Derived.Test.YtdppnaahdilkcaaGreatDoorRa2
import Derived.Test.YtdppnaahdilkcaaGreatDoorRa3
import Derived.Test.YtdppnaahdilkcaaGreatDoorRa4
import Derived.Test.YtdppnaahdilkcaaGreatDoorRa5
import Derived.Test.YtdppnaahdilkcaaGreatDoorRa6
import Derived.Test.YtdppnaahdilkcaaGreatDoorRa7
import Derived.Test.YtdppnaahdilkcaaGreatDoorRa8
import Derived.Test.YtdppnaahdilkcaaGreatDoorRa9
import Derived.Test.YtdppnaahdilkcaaGreatDoorRa10
import Derived.Test.YtdppnaahdilkcaaGreatDoorRa11
import Derived.Test.YtdppnaahdilkcaaGreatDoorRa12
import Derived.Test.YtdppnaahdilkcaaGreatDoorRa13
import Derived.Test.YtdppnaahdilkcaaGreatDoorRa14
import Derived.Test.YtdppnaahdilkcaaGreatDoorRa15
import Derived.Test.YtdppnaahdilkcaaGreatDoorRa16
import Derived.Test.YtdppnaahdilkcaaGreatDoorRa17
import Derived.Test.YtdppnaahdilkcaaGreatDoorRa18
import Derived.Test.YtdppnaahdilkcaaGreatDoorRa19
namespace Go.Proofs.YtdppnaahdilkcaaGreatDoor.Ra
open Go.Proofs.YtdppnaahdilkcaaGreatDoor.V
open Go.K
open Go.K.Ra
open Go.Proofs.YtdppnaahdilkcaaGreatDoor.Kp

theorem hn : NoNum Go.Proofs.Tryz.prog := by
  unfold NoNum; decide +kernel
theorem hm : (Go.Proofs.Tryz.prog).follows .mixedOrders = true := rfl

theorem ok0 [Strm] : ∀ x ∈ ([] : List Piece), x.Ok Go.Proofs.Tryz.prog := fun x hx => absurd hx (by simp)

theorem ok1 [Strm] : q1.Ok Go.Proofs.Tryz.prog := Piece.run (run_ok hm hn (prP_ok prims_ok ok0)) q1 r1

theorem ok2 [Strm] : q2.Ok Go.Proofs.Tryz.prog := Piece.run (run_ok hm hn (prP_ok prims_ok ok0)) q2 r2

theorem g3 [Strm] : ∀ x ∈ [q2], x.Ok Go.Proofs.Tryz.prog := by
  intro x hx
  simp only [List.mem_cons, List.not_mem_nil, or_false] at hx
  rcases hx with rfl
  · exact ok2
theorem ok3 [Strm] : q3.Ok Go.Proofs.Tryz.prog := Piece.run (run_ok hm hn (prP_ok prims_ok g3)) q3 r3

theorem ok4 [Strm] : q4.Ok Go.Proofs.Tryz.prog := Piece.run (run_ok hm hn (prP_ok prims_ok ok0)) q4 r4

theorem ok5 [Strm] : q5.Ok Go.Proofs.Tryz.prog := Piece.run (run_ok hm hn (prP_ok prims_ok ok0)) q5 r5

theorem g6 [Strm] : ∀ x ∈ [q1, q3, q4, q5], x.Ok Go.Proofs.Tryz.prog := by
  intro x hx
  simp only [List.mem_cons, List.not_mem_nil, or_false] at hx
  rcases hx with rfl | rfl | rfl | rfl
  · exact ok1
  · exact ok3
  · exact ok4
  · exact ok5
theorem ok6 [Strm] : q6.Ok Go.Proofs.Tryz.prog := Piece.run (run_ok hm hn (prP_ok prims_ok g6)) q6 r6

theorem ok7 [Strm] : q7.Ok Go.Proofs.Tryz.prog := Piece.run (run_ok hm hn (prP_ok prims_ok ok0)) q7 r7

theorem g8 [Strm] : ∀ x ∈ [q7], x.Ok Go.Proofs.Tryz.prog := by
  intro x hx
  simp only [List.mem_cons, List.not_mem_nil, or_false] at hx
  rcases hx with rfl
  · exact ok7
theorem ok8 [Strm] : q8.Ok Go.Proofs.Tryz.prog := Piece.run (run_ok hm hn (prP_ok prims_ok g8)) q8 r8

theorem ok9 [Strm] : q9.Ok Go.Proofs.Tryz.prog := Piece.run (run_ok hm hn (prP_ok prims_ok ok0)) q9 r9

theorem ok10 [Strm] : q10.Ok Go.Proofs.Tryz.prog := Piece.run (run_ok hm hn (prP_ok prims_ok ok0)) q10 r10

theorem ok11 [Strm] : q11.Ok Go.Proofs.Tryz.prog := Piece.run (run_ok hm hn (prP_ok prims_ok ok0)) q11 r11

theorem ok12 [Strm] : q12.Ok Go.Proofs.Tryz.prog := Piece.run (run_ok hm hn (prP_ok prims_ok ok0)) q12 r12

theorem g13 [Strm] : ∀ x ∈ [q11, q12], x.Ok Go.Proofs.Tryz.prog := by
  intro x hx
  simp only [List.mem_cons, List.not_mem_nil, or_false] at hx
  rcases hx with rfl | rfl
  · exact ok11
  · exact ok12
theorem ok13 [Strm] : q13.Ok Go.Proofs.Tryz.prog := Piece.run (run_ok hm hn (prP_ok prims_ok g13)) q13 r13

theorem ok14 [Strm] : q14.Ok Go.Proofs.Tryz.prog := Piece.run (run_ok hm hn (prP_ok prims_ok ok0)) q14 r14

theorem ok15 [Strm] : q15.Ok Go.Proofs.Tryz.prog := Piece.run (run_ok hm hn (prP_ok prims_ok ok0)) q15 r15

theorem g16 [Strm] : ∀ x ∈ [q14, q15], x.Ok Go.Proofs.Tryz.prog := by
  intro x hx
  simp only [List.mem_cons, List.not_mem_nil, or_false] at hx
  rcases hx with rfl | rfl
  · exact ok14
  · exact ok15
theorem ok16 [Strm] : q16.Ok Go.Proofs.Tryz.prog := Piece.run (run_ok hm hn (prP_ok prims_ok g16)) q16 r16

theorem ok17 [Strm] : q17.Ok Go.Proofs.Tryz.prog := Piece.run (run_ok hm hn (prP_ok prims_ok ok0)) q17 r17

theorem g18 [Strm] : ∀ x ∈ [q17], x.Ok Go.Proofs.Tryz.prog := by
  intro x hx
  simp only [List.mem_cons, List.not_mem_nil, or_false] at hx
  rcases hx with rfl
  · exact ok17
theorem ok18 [Strm] : q18.Ok Go.Proofs.Tryz.prog := Piece.run (run_ok hm hn (prP_ok prims_ok g18)) q18 r18

theorem g19 [Strm] : ∀ x ∈ [q6, q8, q9, q10, q13, q16, q18], x.Ok Go.Proofs.Tryz.prog := by
  intro x hx
  simp only [List.mem_cons, List.not_mem_nil, or_false] at hx
  rcases hx with rfl | rfl | rfl | rfl | rfl | rfl | rfl
  · exact ok6
  · exact ok8
  · exact ok9
  · exact ok10
  · exact ok13
  · exact ok16
  · exact ok18
theorem ok19 [Strm] : q19.Ok Go.Proofs.Tryz.prog := Piece.run (run_ok hm hn (prP_ok prims_ok g19)) q19 r19

/-- The last one. -/
noncomputable abbrev qL : Piece := q19
theorem okL [Strm] : qL.Ok Go.Proofs.Tryz.prog := ok19

end Go.Proofs.YtdppnaahdilkcaaGreatDoor.Ra
