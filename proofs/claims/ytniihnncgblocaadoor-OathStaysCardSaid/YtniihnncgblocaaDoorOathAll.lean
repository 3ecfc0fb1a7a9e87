/-
  The statement 'OathAll': its function, walked.
-/
import Derived.Test.YtniihnncgblocaaDoorOathT
namespace Go.Proofs.YtniihnncgblocaaDoor.V
theorem SgAt.sub {L L' : List (Nat × Obj)} {b off : Nat} {x : SgI} (h : SgAt L b off x) (hs : ∀ p ∈ L, p ∈ L') : SgAt L' b off x := fun j v hj => (h j v hj).sub hs
end Go.Proofs.YtniihnncgblocaaDoor.V
namespace Go.Proofs.YtniihnncgblocaaDoor
open Go.Proofs.YtniihnncgblocaaDoor.V

set_option maxHeartbeats 2000000 in
theorem alllaw_spec [Strm] (l : List SgI) (vl : Value) (zs : List Int) (vz : Value) (h : Hash) (w : World) (F : List (Nat × Obj)) (hvl : ElsA 33 (SgAt F) vl l) (hvz : ZIn F vz zs) (hE : ErrIn F) (H : SL w F) :
    Does Tryd.prog 3 #[vl, vz, hV h.1] w fun r w' => r = .bool true ∧ SL w' F := by
  obtain ⟨az, cz, rfl, hcz⟩ := hvz.len
  obtain ⟨hS, hlen⟩ := laidL_signs l 60
  refine Does.intro (args := [_, _, _]) (e := [(0, _), (1, _), (2, _)]) Tryd.func3 rfl Tryd.ntmps3 rfl rfl ?_
  repeat (first | refine RunsE.seq ?_ | refine RunsE.skip ?_ | refine RunsE.block ?_ | refine RunsE.inBlock ?_ | refine RunsE.yes rfl ?_ | refine RunsE.no rfl ?_ | refine RunsE.exit rfl ?_)
  repeat (first | refine RunsE.seq ?_ | refine RunsE.skip ?_ | refine RunsE.block ?_ | refine RunsE.inBlock ?_ | refine RunsE.yes rfl ?_ | refine RunsE.no rfl ?_ | refine RunsE.exit rfl ?_)
  refine RunsE.region ?_
  refine OpsE.ex (Ex.box H rfl) rfl ?_; (try clear H); rintro _ w ⟨b5, rfl, H⟩; simp only [Value.cells] at H
  refine OpsE.ev (Ev.assign rfl) rfl ?_
  refine OpsE.nil ?_
  repeat (first | refine RunsE.seq ?_ | refine RunsE.skip ?_ | refine RunsE.block ?_ | refine RunsE.inBlock ?_ | refine RunsE.yes rfl ?_ | refine RunsE.no rfl ?_ | refine RunsE.exit rfl ?_)
  refine RunsE.region ?_
  refine OpsE.ev (Ev.move rfl) rfl ?_
  refine OpsE.ex (Ex.call rfl Tryd.call7 (laid_spec l vl w _ (hvl.sub fun _ _ _ h => h.sub fun p hp => .tail _ hp) hE.tail H)) rfl ?_; (try clear H); rintro _ w ⟨b, v, rfl, HP⟩; obtain ⟨A, D, hA, hR, H⟩ := HP.ex
  refine OpsE.ev (Ev.move rfl) rfl ?_
  refine OpsE.ev (Ev.extract rfl rfl) rfl ?_
  refine OpsE.ev (Ev.extract rfl rfl) rfl ?_
  refine OpsE.ev (Ev.extract rfl rfl) rfl ?_
  refine OpsE.ev (Ev.assign rfl) rfl ?_
  refine OpsE.ev (Ev.assign rfl) rfl ?_
  refine OpsE.ev (Ev.assign rfl) rfl ?_
  refine OpsE.nil ?_
  by_cases h1 : 100 < zs.length
  ·
    repeat (first | refine RunsE.seq ?_ | refine RunsE.skip ?_ | refine RunsE.block ?_ | refine RunsE.inBlock ?_ | refine RunsE.yes rfl ?_ | refine RunsE.no rfl ?_ | refine RunsE.exit rfl ?_)
    refine RunsE.region ?_
    refine OpsE.ev (Ev.move rfl) rfl ?_
    refine OpsE.ev (Ev.not rfl) rfl ?_
    refine OpsE.ev (Ev.move rfl) rfl ?_
    first | (refine OpsE.yes rfl rfl ?_; refine OpsE.ev (Ev.move rfl) rfl ?_) | refine OpsE.no rfl rfl rfl ?_ | refine OpsE.off rfl rfl rfl ?_
    first | (refine OpsE.yes rfl rfl ?_; refine OpsE.ev (Ev.lenSl (d := 3) rfl rfl (by kernel_rfl)) rfl ?_) | refine OpsE.no rfl rfl rfl ?_ | refine OpsE.off rfl rfl rfl ?_
    first | (refine OpsE.yes rfl rfl ?_; refine OpsE.ev (Ev.gtr (r := true) rfl rfl (decide_eq_true (by omega))) rfl ?_) | refine OpsE.no rfl rfl rfl ?_ | refine OpsE.off rfl rfl rfl ?_
    refine OpsE.ev ((by first | exact Ev.pickT rfl rfl | exact Ev.pickF rfl rfl)) rfl ?_
    refine OpsE.nil ?_
    repeat (first | refine RunsE.seq ?_ | refine RunsE.skip ?_ | refine RunsE.block ?_ | refine RunsE.inBlock ?_ | refine RunsE.yes rfl ?_ | refine RunsE.no rfl ?_ | refine RunsE.exit rfl ?_)
    refine RunsE.region ?_
    refine OpsE.ev (Ev.move rfl) rfl ?_
    refine OpsE.ev (Ev.move rfl) rfl ?_
    first | (refine OpsE.yes rfl rfl ?_; refine OpsE.ex (Ex.call rfl Tryd.call8 (sure_spec w _ hE.tail.right.right H)) rfl ?_; (try clear H); rintro _ w ⟨rfl, H⟩) | refine OpsE.no rfl rfl rfl ?_ | refine OpsE.off rfl rfl rfl ?_
    refine OpsE.ev ((by first | exact Ev.pickT rfl rfl | exact Ev.pickF rfl rfl)) rfl ?_
    refine OpsE.ev (Ev.assign rfl) rfl ?_
    refine OpsE.nil ?_
    repeat (first | refine RunsE.seq ?_ | refine RunsE.skip ?_ | refine RunsE.block ?_ | refine RunsE.inBlock ?_ | refine RunsE.yes rfl ?_ | refine RunsE.no rfl ?_ | refine RunsE.exit rfl ?_)
    exact RunsE.ret1 Tryd.func3 rfl rfl ⟨rfl, H.dropL.dropL.drop⟩
  ·
    repeat (first | refine RunsE.seq ?_ | refine RunsE.skip ?_ | refine RunsE.block ?_ | refine RunsE.inBlock ?_ | refine RunsE.yes rfl ?_ | refine RunsE.no rfl ?_ | refine RunsE.exit rfl ?_)
    refine RunsE.region ?_
    refine OpsE.ev (Ev.move rfl) rfl ?_
    refine OpsE.ev (Ev.not rfl) rfl ?_
    refine OpsE.ev (Ev.move rfl) rfl ?_
    first | (refine OpsE.yes rfl rfl ?_; refine OpsE.ev (Ev.move rfl) rfl ?_) | refine OpsE.no rfl rfl rfl ?_ | refine OpsE.off rfl rfl rfl ?_
    first | (refine OpsE.yes rfl rfl ?_; refine OpsE.ev (Ev.lenSl (d := 3) rfl rfl (by kernel_rfl)) rfl ?_) | refine OpsE.no rfl rfl rfl ?_ | refine OpsE.off rfl rfl rfl ?_
    first | (refine OpsE.yes rfl rfl ?_; refine OpsE.ev (Ev.gtr (r := false) rfl rfl (decide_eq_false (by omega))) rfl ?_) | refine OpsE.no rfl rfl rfl ?_ | refine OpsE.off rfl rfl rfl ?_
    refine OpsE.ev ((by first | exact Ev.pickT rfl rfl | exact Ev.pickF rfl rfl)) rfl ?_
    refine OpsE.nil ?_
    repeat (first | refine RunsE.seq ?_ | refine RunsE.skip ?_ | refine RunsE.block ?_ | refine RunsE.inBlock ?_ | refine RunsE.yes rfl ?_ | refine RunsE.no rfl ?_ | refine RunsE.exit rfl ?_)
    repeat (first | refine RunsE.seq ?_ | refine RunsE.skip ?_ | refine RunsE.block ?_ | refine RunsE.inBlock ?_ | refine RunsE.yes rfl ?_ | refine RunsE.no rfl ?_ | refine RunsE.exit rfl ?_)
    refine RunsE.drawS H [] (by kernel_rfl) ?_; (try clear H); intro w H
    refine OpsD.take 0 rfl (by kernel_rfl) (by first | exact H | exact H.drop | exact H.drop.drop | exact H.dropL | exact H.drop.dropL | exact H.dropL.drop | exact H.dropL.dropL | exact H.dropMid) (fun w H => Ev.move rfl) rfl ?_
    refine OpsD.take 1 rfl (by kernel_rfl) (by first | exact H | exact H.drop | exact H.drop.drop | exact H.dropL | exact H.drop.dropL | exact H.dropL.drop | exact H.dropL.dropL | exact H.dropMid) (fun w H => Ev.move rfl) rfl ?_
    refine OpsD.take 2 rfl (by kernel_rfl) (by first | exact H | exact H.drop | exact H.drop.drop | exact H.dropL | exact H.drop.dropL | exact H.dropL.drop | exact H.dropL.dropL | exact H.dropMid) (fun w H => Ev.loadBlk (n := 32) (vs := gH h) H rfl (by kernel_rfl) (gH_len h) (List.mem_append_right _ (List.mem_append_right _ m0))) rfl ?_
    refine OpsD.take 4 rfl (by kernel_rfl) (by first | exact H | exact H.drop | exact H.drop.drop | exact H.dropL | exact H.drop.dropL | exact H.dropL.drop | exact H.dropL.dropL | exact H.dropMid) (fun w H => Ev.move rfl) rfl ?_
    refine OpsD.take 5 rfl (by kernel_rfl) (by first | exact H | exact H.drop | exact H.drop.drop | exact H.dropL | exact H.drop.dropL | exact H.dropL.drop | exact H.dropL.dropL | exact H.dropMid) (fun w H => Ev.move rfl) rfl ?_
    refine OpsD.take 6 rfl (by kernel_rfl) (by first | exact H | exact H.drop | exact H.drop.drop | exact H.dropL | exact H.drop.dropL | exact H.dropL.drop | exact H.dropL.dropL | exact H.dropMid) (fun w H => Ev.loadBlk (n := 32) (vs := gH h) H rfl (by kernel_rfl) (gH_len h) (List.mem_append_right _ (List.mem_append_right _ m0))) rfl ?_
    refine OpsD.one 3 (by kernel_rfl) (StepD.ex rfl (Ex.call rfl Tryd.call9 (all_spec b _ hS h _ zs (by omega) A w _ hA (hvz.sub fun p hp => List.mem_append_right _ (List.mem_append_right _ (.tail _ hp))) H)) rfl ?_); (try clear H); rintro _ w ⟨rfl, H⟩; refine ⟨(by first | exact H | exact H.drop | exact H.drop.drop | exact H.dropL | exact H.drop.dropL | exact H.dropL.drop | exact H.dropL.dropL | exact H.dropMid), ?_⟩
    refine OpsD.one 7 (by kernel_rfl) (StepD.ex rfl (Ex.call rfl Tryd.call10 (rall_spec _ v _ zs (by omega) (by omega) h w _ (hR.sub fun p hp => List.mem_append_right _ (List.mem_append_left _ hp)) (hvz.sub fun p hp => List.mem_append_right _ (List.mem_append_right _ (.tail _ hp))) H)) rfl ?_); (try clear H); rintro _ w ⟨rfl, H⟩; refine ⟨(by first | exact H | exact H.drop | exact H.drop.drop | exact H.dropL | exact H.drop.dropL | exact H.dropL.drop | exact H.dropL.dropL | exact H.dropMid), ?_⟩
    refine OpsD.take 8 rfl (by kernel_rfl) (by first | exact H | exact H.drop | exact H.drop.drop | exact H.dropL | exact H.drop.dropL | exact H.dropL.drop | exact H.dropL.dropL | exact H.dropMid) (fun w H => Ev.boolEq (r := true) rfl rfl Tryd.underlying4 (by simp)) rfl ?_
    refine OpsD.take 9 rfl (by kernel_rfl) (by first | exact H | exact H.drop | exact H.drop.drop | exact H.dropL | exact H.drop.dropL | exact H.dropL.drop | exact H.dropL.dropL | exact H.dropMid) (fun w H => Ev.move rfl) rfl ?_
    first | refine OpsD.takeYes 10 rfl (by kernel_rfl) rfl rfl (by first | exact H | exact H.drop | exact H.drop.drop | exact H.dropL | exact H.drop.dropL | exact H.dropL.drop | exact H.dropL.dropL | exact H.dropMid) (fun w H => Ev.move rfl) rfl ?_ | refine OpsD.takeNo 10 rfl (by kernel_rfl) rfl rfl (by first | exact H | exact H.drop | exact H.drop.drop | exact H.dropL | exact H.drop.dropL | exact H.dropL.drop | exact H.dropL.dropL | exact H.dropMid) rfl ?_ | refine OpsD.takeOff 10 rfl (by kernel_rfl) rfl rfl (by first | exact H | exact H.drop | exact H.drop.drop | exact H.dropL | exact H.drop.dropL | exact H.dropL.drop | exact H.dropL.dropL | exact H.dropMid) rfl ?_
    first | refine OpsD.takeYes 11 rfl (by kernel_rfl) rfl rfl (by first | exact H | exact H.drop | exact H.drop.drop | exact H.dropL | exact H.drop.dropL | exact H.dropL.drop | exact H.dropL.dropL | exact H.dropMid) (fun w H => Ev.loadBlk (n := 32) (vs := gH h) H rfl (by kernel_rfl) (gH_len h) (List.mem_append_right _ (List.mem_append_right _ m0))) rfl ?_ | refine OpsD.takeNo 11 rfl (by kernel_rfl) rfl rfl (by first | exact H | exact H.drop | exact H.drop.drop | exact H.dropL | exact H.drop.dropL | exact H.dropL.drop | exact H.dropL.dropL | exact H.dropMid) rfl ?_ | refine OpsD.takeOff 11 rfl (by kernel_rfl) rfl rfl (by first | exact H | exact H.drop | exact H.drop.drop | exact H.dropL | exact H.drop.dropL | exact H.dropL.drop | exact H.dropL.dropL | exact H.dropMid) rfl ?_
    first | (refine OpsD.one 12 (by kernel_rfl) (StepD.exYes rfl rfl rfl (Ex.call rfl Tryd.call9 (all_spec b _ hS h _ [] (by simp) A w _ hA .nil H)) rfl ?_); (try clear H); rintro _ w ⟨rfl, H⟩; refine ⟨(by first | exact H | exact H.drop | exact H.drop.drop | exact H.dropL | exact H.drop.dropL | exact H.dropL.drop | exact H.dropL.dropL | exact H.dropMid), ?_⟩) | refine OpsD.takeNo 12 rfl (by kernel_rfl) rfl rfl (by first | exact H | exact H.drop | exact H.drop.drop | exact H.dropL | exact H.drop.dropL | exact H.dropL.drop | exact H.dropL.dropL | exact H.dropMid) rfl ?_ | refine OpsD.takeOff 12 rfl (by kernel_rfl) rfl rfl (by first | exact H | exact H.drop | exact H.drop.drop | exact H.dropL | exact H.drop.dropL | exact H.dropL.drop | exact H.dropL.dropL | exact H.dropMid) rfl ?_
    refine OpsD.take 13 rfl (by kernel_rfl) (by first | exact H | exact H.drop | exact H.drop.drop | exact H.dropL | exact H.drop.dropL | exact H.dropL.drop | exact H.dropL.dropL | exact H.dropMid) (fun w H => (by first | exact Ev.pickT rfl rfl | exact Ev.pickF rfl rfl)) rfl ?_
    refine OpsD.take 14 rfl (by kernel_rfl) (by first | exact H | exact H.drop | exact H.drop.drop | exact H.dropL | exact H.drop.dropL | exact H.dropL.drop | exact H.dropL.dropL | exact H.dropMid) (fun w H => Ev.move rfl) rfl ?_
    first | (refine OpsD.one 15 (by kernel_rfl) (StepD.exYes rfl rfl rfl (Ex.call rfl Tryd.call8 (sure_spec w _ hE.tail.right.right H)) rfl ?_); (try clear H); rintro _ w ⟨rfl, H⟩; refine ⟨(by first | exact H | exact H.drop | exact H.drop.drop | exact H.dropL | exact H.drop.dropL | exact H.dropL.drop | exact H.dropL.dropL | exact H.dropMid), ?_⟩) | refine OpsD.takeNo 15 rfl (by kernel_rfl) rfl rfl (by first | exact H | exact H.drop | exact H.drop.drop | exact H.dropL | exact H.drop.dropL | exact H.dropL.drop | exact H.dropL.dropL | exact H.dropMid) rfl ?_ | refine OpsD.takeOff 15 rfl (by kernel_rfl) rfl rfl (by first | exact H | exact H.drop | exact H.drop.drop | exact H.dropL | exact H.drop.dropL | exact H.dropL.drop | exact H.dropL.dropL | exact H.dropMid) rfl ?_
    refine OpsD.take 16 rfl (by kernel_rfl) (by first | exact H | exact H.drop | exact H.drop.drop | exact H.dropL | exact H.drop.dropL | exact H.dropL.drop | exact H.dropL.dropL | exact H.dropMid) (fun w H => (by first | exact Ev.pickT rfl rfl | exact Ev.pickF rfl rfl)) rfl ?_
    refine OpsD.take 17 rfl (by kernel_rfl) (by first | exact H | exact H.drop | exact H.drop.drop | exact H.dropL | exact H.drop.dropL | exact H.dropL.drop | exact H.dropL.dropL | exact H.dropMid) (fun w H => Ev.assign rfl) rfl ?_
    refine OpsD.done (by kernel_rfl) ?_
    repeat (first | refine RunsE.seq ?_ | refine RunsE.skip ?_ | refine RunsE.block ?_ | refine RunsE.inBlock ?_ | refine RunsE.yes rfl ?_ | refine RunsE.no rfl ?_ | refine RunsE.exit rfl ?_)
    exact RunsE.ret1 Tryd.func3 rfl rfl ⟨rfl, H.dropL.dropL.drop⟩

end Go.Proofs.YtniihnncgblocaaDoor
