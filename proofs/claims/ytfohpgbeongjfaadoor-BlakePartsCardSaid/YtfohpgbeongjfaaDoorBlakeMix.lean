/-
  The program's step on four words ('mix'), the library's RotateLeft32 that it calls, and the document's ('step', 'right'): each computes 'mixL'.
-/
import Derived.Test.YtfohpgbeongjfaaDoorBlakeP
import Derived.Test.YtfohpgbeongjfaaDoorProg
import Derived.KernelRfl
namespace Go.Proofs.YtfohpgbeongjfaaDoor
open Go.Proofs.YtfohpgbeongjfaaDoor.V

theorem rotl_spec [Strm] (x : W32) (n : Nat) (hn : n < 32) (h0 : 0 < n) (w : World) (L : List (Nat × Obj)) (H : SL w L) :
    Does Tryd.prog 36 #[U x, .int .i64 (-(n : Int))] w fun v w' => v = U (x.rotateRight n) ∧ SL w' L := by
  refine Does.intro (args := [_, _]) (e := [(0, _), (1, _)]) Tryd.func36 rfl Tryd.ntmps36 rfl rfl ?_
  repeat (first | refine RunsE.seq ?_ | refine RunsE.skip ?_ | refine RunsE.block ?_ | refine RunsE.inBlock ?_ | refine RunsE.yes rfl ?_ | refine RunsE.no rfl ?_ | refine RunsE.exit rfl ?_)
  repeat (first | refine RunsE.seq ?_ | refine RunsE.skip ?_ | refine RunsE.block ?_ | refine RunsE.inBlock ?_ | refine RunsE.yes rfl ?_ | refine RunsE.no rfl ?_ | refine RunsE.exit rfl ?_)
  refine RunsE.region ?_
  refine OpsE.ev (Ev.assign rfl) rfl ?_
  refine OpsE.nil ?_
  repeat (first | refine RunsE.seq ?_ | refine RunsE.skip ?_ | refine RunsE.block ?_ | refine RunsE.inBlock ?_ | refine RunsE.yes rfl ?_ | refine RunsE.no rfl ?_ | refine RunsE.exit rfl ?_)
  refine RunsE.region ?_
  refine OpsE.ev (Ev.move rfl) rfl ?_
  refine OpsE.ev (Ev.conv (k' := .u64) rfl (by kernel_rfl) (by kernel_rfl) rfl) rfl ?_
  refine OpsE.ev (Ev.and rfl rfl (rot_and n hn h0)) rfl ?_
  refine OpsE.ev (Ev.assign rfl) rfl ?_
  refine OpsE.nil ?_
  repeat (first | refine RunsE.seq ?_ | refine RunsE.skip ?_ | refine RunsE.block ?_ | refine RunsE.inBlock ?_ | refine RunsE.yes rfl ?_ | refine RunsE.no rfl ?_ | refine RunsE.exit rfl ?_)
  refine RunsE.region ?_
  refine OpsE.ev (Ev.move rfl) rfl ?_
  refine OpsE.ev (Ev.move rfl) rfl ?_
  refine OpsE.ev (Ev.shl rfl rfl (by omega)) rfl ?_
  refine OpsE.ev (Ev.move rfl) rfl ?_
  refine OpsE.ev (Ev.move rfl) rfl ?_
  refine OpsE.ev (Ev.sub (c := (n : Int)) rfl rfl (by rw [show (32 : Int) - ((32 - n : Nat) : Int) = (n : Int) by omega]; exact qu64 (by omega) (by omega))) rfl ?_
  refine OpsE.ev (Ev.shr rfl rfl (by omega)) rfl ?_
  refine OpsE.ev (Ev.or rfl rfl) rfl ?_
  refine OpsE.ev (Ev.assign rfl) rfl ?_
  refine OpsE.nil ?_
  repeat (first | refine RunsE.seq ?_ | refine RunsE.skip ?_ | refine RunsE.block ?_ | refine RunsE.inBlock ?_ | refine RunsE.yes rfl ?_ | refine RunsE.no rfl ?_ | refine RunsE.exit rfl ?_)
  exact RunsE.ret1 Tryd.func36 rfl rfl ⟨congrArg U (by simpa using rot_or x n hn), H⟩

theorem right_spec [Strm] (x : W32) (n : Nat) (hn : n < 32) (w : World) (L : List (Nat × Obj)) (H : SL w L) :
    Does Tryd.prog 32 #[U x, .int .i64 (n : Int)] w fun v w' => v = U (x.rotateRight n) ∧ SL w' L := by
  refine Does.intro (args := [_, _]) (e := [(0, _), (1, _)]) Tryd.func32 rfl Tryd.ntmps32 rfl rfl ?_
  repeat (first | refine RunsE.seq ?_ | refine RunsE.skip ?_ | refine RunsE.block ?_ | refine RunsE.inBlock ?_ | refine RunsE.yes rfl ?_ | refine RunsE.no rfl ?_ | refine RunsE.exit rfl ?_)
  repeat (first | refine RunsE.seq ?_ | refine RunsE.skip ?_ | refine RunsE.block ?_ | refine RunsE.inBlock ?_ | refine RunsE.yes rfl ?_ | refine RunsE.no rfl ?_ | refine RunsE.exit rfl ?_)
  refine RunsE.region ?_
  refine OpsE.ev (Ev.assign rfl) rfl ?_
  refine OpsE.nil ?_
  repeat (first | refine RunsE.seq ?_ | refine RunsE.skip ?_ | refine RunsE.block ?_ | refine RunsE.inBlock ?_ | refine RunsE.yes rfl ?_ | refine RunsE.no rfl ?_ | refine RunsE.exit rfl ?_)
  refine RunsE.drawS H [8] (by kernel_rfl) ?_; (try clear H); intro w H
  refine OpsD.take 0 rfl (by kernel_rfl) H (fun w H => Ev.move rfl) rfl ?_
  refine OpsD.take 1 rfl (by kernel_rfl) H (fun w H => Ev.move rfl) rfl ?_
  refine OpsD.take 2 rfl (by kernel_rfl) H (fun w H => Ev.shr rfl rfl (by omega)) rfl ?_
  refine OpsD.take 3 rfl (by kernel_rfl) H (fun w H => Ev.move rfl) rfl ?_
  refine OpsD.take 4 rfl (by kernel_rfl) H (fun w H => Ev.move rfl) rfl ?_
  refine OpsD.take 5 rfl (by kernel_rfl) H (fun w H => Ev.sub (c := ((32 - n : Nat) : Int)) rfl rfl (by rw [show (32 : Int) - (n : Int) = ((32 - n : Nat) : Int) by omega]; exact qi64 (by omega) (by omega))) rfl ?_
  refine OpsD.take 6 rfl (by kernel_rfl) H (fun w H => Ev.shl rfl rfl (by omega)) rfl ?_
  refine OpsD.take 7 rfl (by kernel_rfl) H (fun w H => Ev.or rfl rfl) rfl ?_
  refine OpsD.one 8 (by kernel_rfl) (StepD.exT rfl rfl (Ev.ex (Ev.assign rfl)) rfl ?_); rintro _ _ ⟨rfl, rfl⟩
  refine OpsD.done (by kernel_rfl) ?_
  repeat (first | refine RunsE.seq ?_ | refine RunsE.skip ?_ | refine RunsE.block ?_ | refine RunsE.inBlock ?_ | refine RunsE.yes rfl ?_ | refine RunsE.no rfl ?_ | refine RunsE.exit rfl ?_)
  exact RunsE.ret1 Tryd.func32 rfl rfl ⟨congrArg U (by simpa [BitVec.or_comm] using rot_or x n hn), H⟩

set_option maxHeartbeats 1000000 in
theorem mix_spec [Strm] (vs : List W32) (a b c d : Nat) (x y : W32) (g : Nat) (T : TypeId) (hl : vs.length = 16) (ha : a < 16) (hb : b < 16) (hc : c < 16) (hd : d < 16) (w : World) (F : List (Nat × Obj))
    (H : SL w ((g, .cells (vs.map U).toArray T (0, 0)) :: F)) :
    Does Tryd.prog 31 #[.pointer (some ⟨g, 0, none⟩), .int .i64 (a : Int), .int .i64 (b : Int), .int .i64 (c : Int), .int .i64 (d : Int), U x, U y] w
      fun v w' => v = .tuple #[] ∧ SL w' ((g, .cells ((mixL vs a b c d x y).map U).toArray T (0, 0)) :: F) := by
  refine Does.intro (args := [_, _, _, _, _, _, _]) (e := [(0, _), (1, _), (2, _), (3, _), (4, _), (5, _), (6, _)]) Tryd.func31 rfl Tryd.ntmps31 rfl rfl ?_
  repeat (first | refine RunsE.seq ?_ | refine RunsE.skip ?_ | refine RunsE.block ?_ | refine RunsE.inBlock ?_ | refine RunsE.yes rfl ?_ | refine RunsE.no rfl ?_ | refine RunsE.exit rfl ?_)
  repeat (first | refine RunsE.seq ?_ | refine RunsE.skip ?_ | refine RunsE.block ?_ | refine RunsE.inBlock ?_ | refine RunsE.yes rfl ?_ | refine RunsE.no rfl ?_ | refine RunsE.exit rfl ?_)
  refine RunsE.drawS H [15] (by kernel_rfl) ?_; (try clear H); intro w H
  refine OpsD.take 0 rfl (by kernel_rfl) H (fun w H => Ev.move rfl) rfl ?_
  refine OpsD.take 1 rfl (by kernel_rfl) H (fun w H => Ev.move rfl) rfl ?_
  refine OpsD.take 2 rfl (by kernel_rfl) H (fun w H => Ev.nilCheck rfl) rfl ?_
  refine OpsD.take 3 rfl (by kernel_rfl) H (fun w H => Ev.iaArr (n := 16) (sz := 1) rfl rfl rfl (by kernel_rfl) (by omega)) rfl ?_
  refine OpsD.take 4 rfl (by kernel_rfl) H (fun w H => Ev.load H rfl (by kernel_rfl) (rdU m0 (by omega))) rfl ?_
  refine OpsD.take 5 rfl (by kernel_rfl) H (fun w H => Ev.move rfl) rfl ?_
  refine OpsD.take 6 rfl (by kernel_rfl) H (fun w H => Ev.move rfl) rfl ?_
  refine OpsD.take 7 rfl (by kernel_rfl) H (fun w H => Ev.nilCheck rfl) rfl ?_
  refine OpsD.take 8 rfl (by kernel_rfl) H (fun w H => Ev.iaArr (n := 16) (sz := 1) rfl rfl rfl (by kernel_rfl) (by omega)) rfl ?_
  refine OpsD.take 9 rfl (by kernel_rfl) H (fun w H => Ev.load H rfl (by kernel_rfl) (rdU m0 (by omega))) rfl ?_
  refine OpsD.take 10 rfl (by kernel_rfl) H (fun w H => Ev.move rfl) rfl ?_
  refine OpsD.take 11 rfl (by kernel_rfl) H (fun w H => Ev.add rfl rfl) rfl ?_
  refine OpsD.take 12 rfl (by kernel_rfl) H (fun w H => Ev.add rfl rfl) rfl ?_
  refine OpsD.take 13 rfl (by kernel_rfl) H (fun w H => Ev.nilCheck rfl) rfl ?_
  refine OpsD.take 14 rfl (by kernel_rfl) H (fun w H => Ev.iaArr (n := 16) (sz := 1) rfl rfl rfl (by kernel_rfl) (by omega)) rfl ?_
  refine OpsD.one 15 (by kernel_rfl) (StepD.exnT rfl rfl (Ex.store1 H rfl rfl (by kernel_rfl) rfl u0 (by simp only [List.size_toArray, List.length_map]; omega) (Thaw.zero _ _) setU) ?_); (try clear H); intro _ w H
  refine OpsD.done (by kernel_rfl) ?_
  obtain ⟨v1, hv1⟩ : ∃ v, v = g1 vs a b x := ⟨_, rfl⟩
  have hl1 : v1.length = 16 := by rw [hv1]; simp [hl]
  change SL w ((g, .cells ((g1 vs a b x).map U).toArray T (0, 0)) :: F) at H
  rw [← hv1] at H
  refine RunsE.weaken (e' := [(0, _), (1, _), (2, _), (3, _), (4, _), (5, _), (6, _)]) ⟨rfl, rfl, rfl, rfl, rfl, rfl, rfl, trivial⟩ ?_
  repeat (first | refine RunsE.seq ?_ | refine RunsE.skip ?_ | refine RunsE.block ?_ | refine RunsE.inBlock ?_ | refine RunsE.yes rfl ?_ | refine RunsE.no rfl ?_ | refine RunsE.exit rfl ?_)
  refine RunsE.drawS H [16] (by kernel_rfl) ?_; (try clear H); intro w H
  refine OpsD.take 0 rfl (by kernel_rfl) H (fun w H => Ev.move rfl) rfl ?_
  refine OpsD.take 1 rfl (by kernel_rfl) H (fun w H => Ev.move rfl) rfl ?_
  refine OpsD.take 2 rfl (by kernel_rfl) H (fun w H => Ev.move rfl) rfl ?_
  refine OpsD.take 3 rfl (by kernel_rfl) H (fun w H => Ev.move rfl) rfl ?_
  refine OpsD.take 4 rfl (by kernel_rfl) H (fun w H => Ev.nilCheck rfl) rfl ?_
  refine OpsD.take 5 rfl (by kernel_rfl) H (fun w H => Ev.iaArr (n := 16) (sz := 1) rfl rfl rfl (by kernel_rfl) (by omega)) rfl ?_
  refine OpsD.take 6 rfl (by kernel_rfl) H (fun w H => Ev.load H rfl (by kernel_rfl) (rdU m0 (by omega))) rfl ?_
  refine OpsD.take 7 rfl (by kernel_rfl) H (fun w H => Ev.move rfl) rfl ?_
  refine OpsD.take 8 rfl (by kernel_rfl) H (fun w H => Ev.move rfl) rfl ?_
  refine OpsD.take 9 rfl (by kernel_rfl) H (fun w H => Ev.nilCheck rfl) rfl ?_
  refine OpsD.take 10 rfl (by kernel_rfl) H (fun w H => Ev.iaArr (n := 16) (sz := 1) rfl rfl rfl (by kernel_rfl) (by omega)) rfl ?_
  refine OpsD.take 11 rfl (by kernel_rfl) H (fun w H => Ev.load H rfl (by kernel_rfl) (rdU m0 (by omega))) rfl ?_
  refine OpsD.take 12 rfl (by kernel_rfl) H (fun w H => Ev.xor rfl rfl) rfl ?_
  refine OpsD.take 14 rfl (by kernel_rfl) H (fun w H => Ev.nilCheck rfl) rfl ?_
  refine OpsD.one 13 (by kernel_rfl) (StepD.ex rfl (Ex.call rfl Tryd.call36 (rotl_spec _ 16 (by omega) (by omega) w _ H)) rfl ?_); (try clear H); rintro _ w ⟨rfl, H⟩; refine ⟨(by first | exact H | exact H.drop | exact H.drop.drop | exact H.dropL), ?_⟩
  refine OpsD.take 15 rfl (by kernel_rfl) H (fun w H => Ev.iaArr (n := 16) (sz := 1) rfl rfl rfl (by kernel_rfl) (by omega)) rfl ?_
  refine OpsD.one 16 (by kernel_rfl) (StepD.exnT rfl rfl (Ex.store1 H rfl rfl (by kernel_rfl) rfl u0 (by simp only [List.size_toArray, List.length_map]; omega) (Thaw.zero _ _) setU) ?_); (try clear H); intro _ w H
  refine OpsD.done (by kernel_rfl) ?_
  obtain ⟨v2, hv2⟩ : ∃ v, v = g2 v1 d a 16 := ⟨_, rfl⟩
  have hl2 : v2.length = 16 := by rw [hv2]; simp [hl1]
  change SL w ((g, .cells ((g2 v1 d a 16).map U).toArray T (0, 0)) :: F) at H
  rw [← hv2] at H
  refine RunsE.weaken (e' := [(0, _), (1, _), (2, _), (3, _), (4, _), (5, _), (6, _)]) ⟨rfl, rfl, rfl, rfl, rfl, rfl, rfl, trivial⟩ ?_
  repeat (first | refine RunsE.seq ?_ | refine RunsE.skip ?_ | refine RunsE.block ?_ | refine RunsE.inBlock ?_ | refine RunsE.yes rfl ?_ | refine RunsE.no rfl ?_ | refine RunsE.exit rfl ?_)
  refine RunsE.drawS H [13] (by kernel_rfl) ?_; (try clear H); intro w H
  refine OpsD.take 0 rfl (by kernel_rfl) H (fun w H => Ev.move rfl) rfl ?_
  refine OpsD.take 1 rfl (by kernel_rfl) H (fun w H => Ev.move rfl) rfl ?_
  refine OpsD.take 2 rfl (by kernel_rfl) H (fun w H => Ev.nilCheck rfl) rfl ?_
  refine OpsD.take 3 rfl (by kernel_rfl) H (fun w H => Ev.iaArr (n := 16) (sz := 1) rfl rfl rfl (by kernel_rfl) (by omega)) rfl ?_
  refine OpsD.take 4 rfl (by kernel_rfl) H (fun w H => Ev.load H rfl (by kernel_rfl) (rdU m0 (by omega))) rfl ?_
  refine OpsD.take 5 rfl (by kernel_rfl) H (fun w H => Ev.move rfl) rfl ?_
  refine OpsD.take 6 rfl (by kernel_rfl) H (fun w H => Ev.move rfl) rfl ?_
  refine OpsD.take 7 rfl (by kernel_rfl) H (fun w H => Ev.nilCheck rfl) rfl ?_
  refine OpsD.take 8 rfl (by kernel_rfl) H (fun w H => Ev.iaArr (n := 16) (sz := 1) rfl rfl rfl (by kernel_rfl) (by omega)) rfl ?_
  refine OpsD.take 9 rfl (by kernel_rfl) H (fun w H => Ev.load H rfl (by kernel_rfl) (rdU m0 (by omega))) rfl ?_
  refine OpsD.take 10 rfl (by kernel_rfl) H (fun w H => Ev.add rfl rfl) rfl ?_
  refine OpsD.take 11 rfl (by kernel_rfl) H (fun w H => Ev.nilCheck rfl) rfl ?_
  refine OpsD.take 12 rfl (by kernel_rfl) H (fun w H => Ev.iaArr (n := 16) (sz := 1) rfl rfl rfl (by kernel_rfl) (by omega)) rfl ?_
  refine OpsD.one 13 (by kernel_rfl) (StepD.exnT rfl rfl (Ex.store1 H rfl rfl (by kernel_rfl) rfl u0 (by simp only [List.size_toArray, List.length_map]; omega) (Thaw.zero _ _) setU) ?_); (try clear H); intro _ w H
  refine OpsD.done (by kernel_rfl) ?_
  obtain ⟨v3, hv3⟩ : ∃ v, v = g3 v2 c d := ⟨_, rfl⟩
  have hl3 : v3.length = 16 := by rw [hv3]; simp [hl2]
  change SL w ((g, .cells ((g3 v2 c d).map U).toArray T (0, 0)) :: F) at H
  rw [← hv3] at H
  refine RunsE.weaken (e' := [(0, _), (1, _), (2, _), (3, _), (4, _), (5, _), (6, _)]) ⟨rfl, rfl, rfl, rfl, rfl, rfl, rfl, trivial⟩ ?_
  repeat (first | refine RunsE.seq ?_ | refine RunsE.skip ?_ | refine RunsE.block ?_ | refine RunsE.inBlock ?_ | refine RunsE.yes rfl ?_ | refine RunsE.no rfl ?_ | refine RunsE.exit rfl ?_)
  refine RunsE.drawS H [16] (by kernel_rfl) ?_; (try clear H); intro w H
  refine OpsD.take 0 rfl (by kernel_rfl) H (fun w H => Ev.move rfl) rfl ?_
  refine OpsD.take 1 rfl (by kernel_rfl) H (fun w H => Ev.move rfl) rfl ?_
  refine OpsD.take 2 rfl (by kernel_rfl) H (fun w H => Ev.move rfl) rfl ?_
  refine OpsD.take 3 rfl (by kernel_rfl) H (fun w H => Ev.move rfl) rfl ?_
  refine OpsD.take 4 rfl (by kernel_rfl) H (fun w H => Ev.nilCheck rfl) rfl ?_
  refine OpsD.take 5 rfl (by kernel_rfl) H (fun w H => Ev.iaArr (n := 16) (sz := 1) rfl rfl rfl (by kernel_rfl) (by omega)) rfl ?_
  refine OpsD.take 6 rfl (by kernel_rfl) H (fun w H => Ev.load H rfl (by kernel_rfl) (rdU m0 (by omega))) rfl ?_
  refine OpsD.take 7 rfl (by kernel_rfl) H (fun w H => Ev.move rfl) rfl ?_
  refine OpsD.take 8 rfl (by kernel_rfl) H (fun w H => Ev.move rfl) rfl ?_
  refine OpsD.take 9 rfl (by kernel_rfl) H (fun w H => Ev.nilCheck rfl) rfl ?_
  refine OpsD.take 10 rfl (by kernel_rfl) H (fun w H => Ev.iaArr (n := 16) (sz := 1) rfl rfl rfl (by kernel_rfl) (by omega)) rfl ?_
  refine OpsD.take 11 rfl (by kernel_rfl) H (fun w H => Ev.load H rfl (by kernel_rfl) (rdU m0 (by omega))) rfl ?_
  refine OpsD.take 12 rfl (by kernel_rfl) H (fun w H => Ev.xor rfl rfl) rfl ?_
  refine OpsD.take 14 rfl (by kernel_rfl) H (fun w H => Ev.nilCheck rfl) rfl ?_
  refine OpsD.one 13 (by kernel_rfl) (StepD.ex rfl (Ex.call rfl Tryd.call36 (rotl_spec _ 12 (by omega) (by omega) w _ H)) rfl ?_); (try clear H); rintro _ w ⟨rfl, H⟩; refine ⟨(by first | exact H | exact H.drop | exact H.drop.drop | exact H.dropL), ?_⟩
  refine OpsD.take 15 rfl (by kernel_rfl) H (fun w H => Ev.iaArr (n := 16) (sz := 1) rfl rfl rfl (by kernel_rfl) (by omega)) rfl ?_
  refine OpsD.one 16 (by kernel_rfl) (StepD.exnT rfl rfl (Ex.store1 H rfl rfl (by kernel_rfl) rfl u0 (by simp only [List.size_toArray, List.length_map]; omega) (Thaw.zero _ _) setU) ?_); (try clear H); intro _ w H
  refine OpsD.done (by kernel_rfl) ?_
  obtain ⟨v4, hv4⟩ : ∃ v, v = g2 v3 b c 12 := ⟨_, rfl⟩
  have hl4 : v4.length = 16 := by rw [hv4]; simp [hl3]
  change SL w ((g, .cells ((g2 v3 b c 12).map U).toArray T (0, 0)) :: F) at H
  rw [← hv4] at H
  refine RunsE.weaken (e' := [(0, _), (1, _), (2, _), (3, _), (4, _), (5, _), (6, _)]) ⟨rfl, rfl, rfl, rfl, rfl, rfl, rfl, trivial⟩ ?_
  repeat (first | refine RunsE.seq ?_ | refine RunsE.skip ?_ | refine RunsE.block ?_ | refine RunsE.inBlock ?_ | refine RunsE.yes rfl ?_ | refine RunsE.no rfl ?_ | refine RunsE.exit rfl ?_)
  refine RunsE.drawS H [15] (by kernel_rfl) ?_; (try clear H); intro w H
  refine OpsD.take 0 rfl (by kernel_rfl) H (fun w H => Ev.move rfl) rfl ?_
  refine OpsD.take 1 rfl (by kernel_rfl) H (fun w H => Ev.move rfl) rfl ?_
  refine OpsD.take 2 rfl (by kernel_rfl) H (fun w H => Ev.nilCheck rfl) rfl ?_
  refine OpsD.take 3 rfl (by kernel_rfl) H (fun w H => Ev.iaArr (n := 16) (sz := 1) rfl rfl rfl (by kernel_rfl) (by omega)) rfl ?_
  refine OpsD.take 4 rfl (by kernel_rfl) H (fun w H => Ev.load H rfl (by kernel_rfl) (rdU m0 (by omega))) rfl ?_
  refine OpsD.take 5 rfl (by kernel_rfl) H (fun w H => Ev.move rfl) rfl ?_
  refine OpsD.take 6 rfl (by kernel_rfl) H (fun w H => Ev.move rfl) rfl ?_
  refine OpsD.take 7 rfl (by kernel_rfl) H (fun w H => Ev.nilCheck rfl) rfl ?_
  refine OpsD.take 8 rfl (by kernel_rfl) H (fun w H => Ev.iaArr (n := 16) (sz := 1) rfl rfl rfl (by kernel_rfl) (by omega)) rfl ?_
  refine OpsD.take 9 rfl (by kernel_rfl) H (fun w H => Ev.load H rfl (by kernel_rfl) (rdU m0 (by omega))) rfl ?_
  refine OpsD.take 10 rfl (by kernel_rfl) H (fun w H => Ev.move rfl) rfl ?_
  refine OpsD.take 11 rfl (by kernel_rfl) H (fun w H => Ev.add rfl rfl) rfl ?_
  refine OpsD.take 12 rfl (by kernel_rfl) H (fun w H => Ev.add rfl rfl) rfl ?_
  refine OpsD.take 13 rfl (by kernel_rfl) H (fun w H => Ev.nilCheck rfl) rfl ?_
  refine OpsD.take 14 rfl (by kernel_rfl) H (fun w H => Ev.iaArr (n := 16) (sz := 1) rfl rfl rfl (by kernel_rfl) (by omega)) rfl ?_
  refine OpsD.one 15 (by kernel_rfl) (StepD.exnT rfl rfl (Ex.store1 H rfl rfl (by kernel_rfl) rfl u0 (by simp only [List.size_toArray, List.length_map]; omega) (Thaw.zero _ _) setU) ?_); (try clear H); intro _ w H
  refine OpsD.done (by kernel_rfl) ?_
  obtain ⟨v5, hv5⟩ : ∃ v, v = g1 v4 a b y := ⟨_, rfl⟩
  have hl5 : v5.length = 16 := by rw [hv5]; simp [hl4]
  change SL w ((g, .cells ((g1 v4 a b y).map U).toArray T (0, 0)) :: F) at H
  rw [← hv5] at H
  refine RunsE.weaken (e' := [(0, _), (1, _), (2, _), (3, _), (4, _), (5, _), (6, _)]) ⟨rfl, rfl, rfl, rfl, rfl, rfl, rfl, trivial⟩ ?_
  repeat (first | refine RunsE.seq ?_ | refine RunsE.skip ?_ | refine RunsE.block ?_ | refine RunsE.inBlock ?_ | refine RunsE.yes rfl ?_ | refine RunsE.no rfl ?_ | refine RunsE.exit rfl ?_)
  refine RunsE.drawS H [16] (by kernel_rfl) ?_; (try clear H); intro w H
  refine OpsD.take 0 rfl (by kernel_rfl) H (fun w H => Ev.move rfl) rfl ?_
  refine OpsD.take 1 rfl (by kernel_rfl) H (fun w H => Ev.move rfl) rfl ?_
  refine OpsD.take 2 rfl (by kernel_rfl) H (fun w H => Ev.move rfl) rfl ?_
  refine OpsD.take 3 rfl (by kernel_rfl) H (fun w H => Ev.move rfl) rfl ?_
  refine OpsD.take 4 rfl (by kernel_rfl) H (fun w H => Ev.nilCheck rfl) rfl ?_
  refine OpsD.take 5 rfl (by kernel_rfl) H (fun w H => Ev.iaArr (n := 16) (sz := 1) rfl rfl rfl (by kernel_rfl) (by omega)) rfl ?_
  refine OpsD.take 6 rfl (by kernel_rfl) H (fun w H => Ev.load H rfl (by kernel_rfl) (rdU m0 (by omega))) rfl ?_
  refine OpsD.take 7 rfl (by kernel_rfl) H (fun w H => Ev.move rfl) rfl ?_
  refine OpsD.take 8 rfl (by kernel_rfl) H (fun w H => Ev.move rfl) rfl ?_
  refine OpsD.take 9 rfl (by kernel_rfl) H (fun w H => Ev.nilCheck rfl) rfl ?_
  refine OpsD.take 10 rfl (by kernel_rfl) H (fun w H => Ev.iaArr (n := 16) (sz := 1) rfl rfl rfl (by kernel_rfl) (by omega)) rfl ?_
  refine OpsD.take 11 rfl (by kernel_rfl) H (fun w H => Ev.load H rfl (by kernel_rfl) (rdU m0 (by omega))) rfl ?_
  refine OpsD.take 12 rfl (by kernel_rfl) H (fun w H => Ev.xor rfl rfl) rfl ?_
  refine OpsD.take 14 rfl (by kernel_rfl) H (fun w H => Ev.nilCheck rfl) rfl ?_
  refine OpsD.one 13 (by kernel_rfl) (StepD.ex rfl (Ex.call rfl Tryd.call36 (rotl_spec _ 8 (by omega) (by omega) w _ H)) rfl ?_); (try clear H); rintro _ w ⟨rfl, H⟩; refine ⟨(by first | exact H | exact H.drop | exact H.drop.drop | exact H.dropL), ?_⟩
  refine OpsD.take 15 rfl (by kernel_rfl) H (fun w H => Ev.iaArr (n := 16) (sz := 1) rfl rfl rfl (by kernel_rfl) (by omega)) rfl ?_
  refine OpsD.one 16 (by kernel_rfl) (StepD.exnT rfl rfl (Ex.store1 H rfl rfl (by kernel_rfl) rfl u0 (by simp only [List.size_toArray, List.length_map]; omega) (Thaw.zero _ _) setU) ?_); (try clear H); intro _ w H
  refine OpsD.done (by kernel_rfl) ?_
  obtain ⟨v6, hv6⟩ : ∃ v, v = g2 v5 d a 8 := ⟨_, rfl⟩
  have hl6 : v6.length = 16 := by rw [hv6]; simp [hl5]
  change SL w ((g, .cells ((g2 v5 d a 8).map U).toArray T (0, 0)) :: F) at H
  rw [← hv6] at H
  refine RunsE.weaken (e' := [(0, _), (1, _), (2, _), (3, _), (4, _), (5, _), (6, _)]) ⟨rfl, rfl, rfl, rfl, rfl, rfl, rfl, trivial⟩ ?_
  repeat (first | refine RunsE.seq ?_ | refine RunsE.skip ?_ | refine RunsE.block ?_ | refine RunsE.inBlock ?_ | refine RunsE.yes rfl ?_ | refine RunsE.no rfl ?_ | refine RunsE.exit rfl ?_)
  refine RunsE.drawS H [13] (by kernel_rfl) ?_; (try clear H); intro w H
  refine OpsD.take 0 rfl (by kernel_rfl) H (fun w H => Ev.move rfl) rfl ?_
  refine OpsD.take 1 rfl (by kernel_rfl) H (fun w H => Ev.move rfl) rfl ?_
  refine OpsD.take 2 rfl (by kernel_rfl) H (fun w H => Ev.nilCheck rfl) rfl ?_
  refine OpsD.take 3 rfl (by kernel_rfl) H (fun w H => Ev.iaArr (n := 16) (sz := 1) rfl rfl rfl (by kernel_rfl) (by omega)) rfl ?_
  refine OpsD.take 4 rfl (by kernel_rfl) H (fun w H => Ev.load H rfl (by kernel_rfl) (rdU m0 (by omega))) rfl ?_
  refine OpsD.take 5 rfl (by kernel_rfl) H (fun w H => Ev.move rfl) rfl ?_
  refine OpsD.take 6 rfl (by kernel_rfl) H (fun w H => Ev.move rfl) rfl ?_
  refine OpsD.take 7 rfl (by kernel_rfl) H (fun w H => Ev.nilCheck rfl) rfl ?_
  refine OpsD.take 8 rfl (by kernel_rfl) H (fun w H => Ev.iaArr (n := 16) (sz := 1) rfl rfl rfl (by kernel_rfl) (by omega)) rfl ?_
  refine OpsD.take 9 rfl (by kernel_rfl) H (fun w H => Ev.load H rfl (by kernel_rfl) (rdU m0 (by omega))) rfl ?_
  refine OpsD.take 10 rfl (by kernel_rfl) H (fun w H => Ev.add rfl rfl) rfl ?_
  refine OpsD.take 11 rfl (by kernel_rfl) H (fun w H => Ev.nilCheck rfl) rfl ?_
  refine OpsD.take 12 rfl (by kernel_rfl) H (fun w H => Ev.iaArr (n := 16) (sz := 1) rfl rfl rfl (by kernel_rfl) (by omega)) rfl ?_
  refine OpsD.one 13 (by kernel_rfl) (StepD.exnT rfl rfl (Ex.store1 H rfl rfl (by kernel_rfl) rfl u0 (by simp only [List.size_toArray, List.length_map]; omega) (Thaw.zero _ _) setU) ?_); (try clear H); intro _ w H
  refine OpsD.done (by kernel_rfl) ?_
  obtain ⟨v7, hv7⟩ : ∃ v, v = g3 v6 c d := ⟨_, rfl⟩
  have hl7 : v7.length = 16 := by rw [hv7]; simp [hl6]
  change SL w ((g, .cells ((g3 v6 c d).map U).toArray T (0, 0)) :: F) at H
  rw [← hv7] at H
  refine RunsE.weaken (e' := [(0, _), (1, _), (2, _), (3, _), (4, _), (5, _), (6, _)]) ⟨rfl, rfl, rfl, rfl, rfl, rfl, rfl, trivial⟩ ?_
  repeat (first | refine RunsE.seq ?_ | refine RunsE.skip ?_ | refine RunsE.block ?_ | refine RunsE.inBlock ?_ | refine RunsE.yes rfl ?_ | refine RunsE.no rfl ?_ | refine RunsE.exit rfl ?_)
  refine RunsE.drawS H [16] (by kernel_rfl) ?_; (try clear H); intro w H
  refine OpsD.take 0 rfl (by kernel_rfl) H (fun w H => Ev.move rfl) rfl ?_
  refine OpsD.take 1 rfl (by kernel_rfl) H (fun w H => Ev.move rfl) rfl ?_
  refine OpsD.take 2 rfl (by kernel_rfl) H (fun w H => Ev.move rfl) rfl ?_
  refine OpsD.take 3 rfl (by kernel_rfl) H (fun w H => Ev.move rfl) rfl ?_
  refine OpsD.take 4 rfl (by kernel_rfl) H (fun w H => Ev.nilCheck rfl) rfl ?_
  refine OpsD.take 5 rfl (by kernel_rfl) H (fun w H => Ev.iaArr (n := 16) (sz := 1) rfl rfl rfl (by kernel_rfl) (by omega)) rfl ?_
  refine OpsD.take 6 rfl (by kernel_rfl) H (fun w H => Ev.load H rfl (by kernel_rfl) (rdU m0 (by omega))) rfl ?_
  refine OpsD.take 7 rfl (by kernel_rfl) H (fun w H => Ev.move rfl) rfl ?_
  refine OpsD.take 8 rfl (by kernel_rfl) H (fun w H => Ev.move rfl) rfl ?_
  refine OpsD.take 9 rfl (by kernel_rfl) H (fun w H => Ev.nilCheck rfl) rfl ?_
  refine OpsD.take 10 rfl (by kernel_rfl) H (fun w H => Ev.iaArr (n := 16) (sz := 1) rfl rfl rfl (by kernel_rfl) (by omega)) rfl ?_
  refine OpsD.take 11 rfl (by kernel_rfl) H (fun w H => Ev.load H rfl (by kernel_rfl) (rdU m0 (by omega))) rfl ?_
  refine OpsD.take 12 rfl (by kernel_rfl) H (fun w H => Ev.xor rfl rfl) rfl ?_
  refine OpsD.take 14 rfl (by kernel_rfl) H (fun w H => Ev.nilCheck rfl) rfl ?_
  refine OpsD.one 13 (by kernel_rfl) (StepD.ex rfl (Ex.call rfl Tryd.call36 (rotl_spec _ 7 (by omega) (by omega) w _ H)) rfl ?_); (try clear H); rintro _ w ⟨rfl, H⟩; refine ⟨(by first | exact H | exact H.drop | exact H.drop.drop | exact H.dropL), ?_⟩
  refine OpsD.take 15 rfl (by kernel_rfl) H (fun w H => Ev.iaArr (n := 16) (sz := 1) rfl rfl rfl (by kernel_rfl) (by omega)) rfl ?_
  refine OpsD.one 16 (by kernel_rfl) (StepD.exnT rfl rfl (Ex.store1 H rfl rfl (by kernel_rfl) rfl u0 (by simp only [List.size_toArray, List.length_map]; omega) (Thaw.zero _ _) setU) ?_); (try clear H); intro _ w H
  refine OpsD.done (by kernel_rfl) ?_
  obtain ⟨v8, hv8⟩ : ∃ v, v = g2 v7 b c 7 := ⟨_, rfl⟩
  have hl8 : v8.length = 16 := by rw [hv8]; simp [hl7]
  change SL w ((g, .cells ((g2 v7 b c 7).map U).toArray T (0, 0)) :: F) at H
  rw [← hv8] at H
  refine RunsE.weaken (e' := [(0, _), (1, _), (2, _), (3, _), (4, _), (5, _), (6, _)]) ⟨rfl, rfl, rfl, rfl, rfl, rfl, rfl, trivial⟩ ?_
  repeat (first | refine RunsE.seq ?_ | refine RunsE.skip ?_ | refine RunsE.block ?_ | refine RunsE.inBlock ?_ | refine RunsE.yes rfl ?_ | refine RunsE.no rfl ?_ | refine RunsE.exit rfl ?_)
  refine RunsE.end0 Tryd.func31 rfl ⟨rfl, ?_⟩
  simp only [mixL, ← hv1, ← hv2, ← hv3, ← hv4, ← hv5, ← hv6, ← hv7, ← hv8]
  exact H

set_option maxHeartbeats 1000000 in
theorem step_spec [Strm] (vs : List W32) (a b c d : Nat) (x y : W32) (g : Nat) (T : TypeId) (cap : Nat) (sp : List Value) (fr : Nat × Nat) (hfr : Thaw fr 0 16) (hl : vs.length = 16) (ha : a < 16) (hb : b < 16) (hc : c < 16) (hd : d < 16) (w : World) (F : List (Nat × Obj))
    (H : SL w ((g, .cells (vs.map U ++ sp).toArray T fr) :: F)) :
    Does Tryd.prog 25 #[.slice (some ⟨g, 0, none⟩) 16 cap, .int .i64 (a : Int), .int .i64 (b : Int), .int .i64 (c : Int), .int .i64 (d : Int), U x, U y] w
      fun v w' => v = .tuple #[] ∧ SL w' ((g, .cells ((mixL vs a b c d x y).map U ++ sp).toArray T fr) :: F) := by
  refine Does.intro (args := [_, _, _, _, _, _, _]) (e := [(0, _), (1, _), (2, _), (3, _), (4, _), (5, _), (6, _)]) Tryd.func25 rfl Tryd.ntmps25 rfl rfl ?_
  repeat (first | refine RunsE.seq ?_ | refine RunsE.skip ?_ | refine RunsE.block ?_ | refine RunsE.inBlock ?_ | refine RunsE.yes rfl ?_ | refine RunsE.no rfl ?_ | refine RunsE.exit rfl ?_)
  repeat (first | refine RunsE.seq ?_ | refine RunsE.skip ?_ | refine RunsE.block ?_ | refine RunsE.inBlock ?_ | refine RunsE.yes rfl ?_ | refine RunsE.no rfl ?_ | refine RunsE.exit rfl ?_)
  refine RunsE.drawS H [14] (by kernel_rfl) ?_; (try clear H); intro w H
  refine OpsD.take 0 rfl (by kernel_rfl) H (fun w H => Ev.move rfl) rfl ?_
  refine OpsD.take 1 rfl (by kernel_rfl) H (fun w H => Ev.move rfl) rfl ?_
  refine OpsD.take 2 rfl (by kernel_rfl) H (fun w H => Ev.move rfl) rfl ?_
  refine OpsD.take 3 rfl (by kernel_rfl) H (fun w H => Ev.move rfl) rfl ?_
  refine OpsD.take 4 rfl (by kernel_rfl) H (fun w H => Ev.iaSl (n := 46) (sz := 1) rfl rfl rfl (by kernel_rfl) (by omega)) rfl ?_
  refine OpsD.take 5 rfl (by kernel_rfl) H (fun w H => Ev.load H rfl (by kernel_rfl) (rdUs m0 (by omega))) rfl ?_
  refine OpsD.take 6 rfl (by kernel_rfl) H (fun w H => Ev.move rfl) rfl ?_
  refine OpsD.take 7 rfl (by kernel_rfl) H (fun w H => Ev.move rfl) rfl ?_
  refine OpsD.take 8 rfl (by kernel_rfl) H (fun w H => Ev.iaSl (n := 46) (sz := 1) rfl rfl rfl (by kernel_rfl) (by omega)) rfl ?_
  refine OpsD.take 9 rfl (by kernel_rfl) H (fun w H => Ev.load H rfl (by kernel_rfl) (rdUs m0 (by omega))) rfl ?_
  refine OpsD.take 10 rfl (by kernel_rfl) H (fun w H => Ev.add rfl rfl) rfl ?_
  refine OpsD.take 11 rfl (by kernel_rfl) H (fun w H => Ev.move rfl) rfl ?_
  refine OpsD.take 12 rfl (by kernel_rfl) H (fun w H => Ev.add rfl rfl) rfl ?_
  refine OpsD.take 13 rfl (by kernel_rfl) H (fun w H => Ev.iaSl (n := 46) (sz := 1) rfl rfl rfl (by kernel_rfl) (by omega)) rfl ?_
  refine OpsD.one 14 (by kernel_rfl) (StepD.exnT rfl rfl (Ex.store1 H rfl rfl (by kernel_rfl) rfl u0 (by simp only [List.size_toArray, List.length_map, List.length_append]; omega) (hfr.sub (by omega)) (setUs (by omega))) ?_); (try clear H); intro _ w H
  refine OpsD.done (by kernel_rfl) ?_
  obtain ⟨v1, hv1⟩ : ∃ v, v = g1 vs a b x := ⟨_, rfl⟩
  have hl1 : v1.length = 16 := by rw [hv1]; simp [hl]
  rw [BitVec.add_assoc] at H
  change SL w ((g, .cells ((g1 vs a b x).map U ++ sp).toArray T fr) :: F) at H
  rw [← hv1] at H
  refine RunsE.weaken (e' := [(0, _), (1, _), (2, _), (3, _), (4, _), (5, _), (6, _)]) ⟨rfl, rfl, rfl, rfl, rfl, rfl, rfl, trivial⟩ ?_
  repeat (first | refine RunsE.seq ?_ | refine RunsE.skip ?_ | refine RunsE.block ?_ | refine RunsE.inBlock ?_ | refine RunsE.yes rfl ?_ | refine RunsE.no rfl ?_ | refine RunsE.exit rfl ?_)
  refine RunsE.drawS H [13] (by kernel_rfl) ?_; (try clear H); intro w H
  refine OpsD.take 0 rfl (by kernel_rfl) H (fun w H => Ev.move rfl) rfl ?_
  refine OpsD.take 1 rfl (by kernel_rfl) H (fun w H => Ev.move rfl) rfl ?_
  refine OpsD.take 2 rfl (by kernel_rfl) H (fun w H => Ev.move rfl) rfl ?_
  refine OpsD.take 3 rfl (by kernel_rfl) H (fun w H => Ev.move rfl) rfl ?_
  refine OpsD.take 4 rfl (by kernel_rfl) H (fun w H => Ev.iaSl (n := 46) (sz := 1) rfl rfl rfl (by kernel_rfl) (by omega)) rfl ?_
  refine OpsD.take 5 rfl (by kernel_rfl) H (fun w H => Ev.load H rfl (by kernel_rfl) (rdUs m0 (by omega))) rfl ?_
  refine OpsD.take 6 rfl (by kernel_rfl) H (fun w H => Ev.move rfl) rfl ?_
  refine OpsD.take 7 rfl (by kernel_rfl) H (fun w H => Ev.move rfl) rfl ?_
  refine OpsD.take 8 rfl (by kernel_rfl) H (fun w H => Ev.iaSl (n := 46) (sz := 1) rfl rfl rfl (by kernel_rfl) (by omega)) rfl ?_
  refine OpsD.take 9 rfl (by kernel_rfl) H (fun w H => Ev.load H rfl (by kernel_rfl) (rdUs m0 (by omega))) rfl ?_
  refine OpsD.take 10 rfl (by kernel_rfl) H (fun w H => Ev.xor rfl rfl) rfl ?_
  refine OpsD.one 11 (by kernel_rfl) (StepD.ex rfl (Ex.call rfl Tryd.call32 (right_spec _ 16 (by omega) w _ H)) rfl ?_); (try clear H); rintro _ w ⟨rfl, H⟩; refine ⟨(by first | exact H | exact H.drop | exact H.drop.drop | exact H.dropL), ?_⟩
  refine OpsD.take 12 rfl (by kernel_rfl) H (fun w H => Ev.iaSl (n := 46) (sz := 1) rfl rfl rfl (by kernel_rfl) (by omega)) rfl ?_
  refine OpsD.one 13 (by kernel_rfl) (StepD.exnT rfl rfl (Ex.store1 H rfl rfl (by kernel_rfl) rfl u0 (by simp only [List.size_toArray, List.length_map, List.length_append]; omega) (hfr.sub (by omega)) (setUs (by omega))) ?_); (try clear H); intro _ w H
  refine OpsD.done (by kernel_rfl) ?_
  obtain ⟨v2, hv2⟩ : ∃ v, v = g2 v1 d a 16 := ⟨_, rfl⟩
  have hl2 : v2.length = 16 := by rw [hv2]; simp [hl1]
  change SL w ((g, .cells ((g2 v1 d a 16).map U ++ sp).toArray T fr) :: F) at H
  rw [← hv2] at H
  refine RunsE.weaken (e' := [(0, _), (1, _), (2, _), (3, _), (4, _), (5, _), (6, _)]) ⟨rfl, rfl, rfl, rfl, rfl, rfl, rfl, trivial⟩ ?_
  repeat (first | refine RunsE.seq ?_ | refine RunsE.skip ?_ | refine RunsE.block ?_ | refine RunsE.inBlock ?_ | refine RunsE.yes rfl ?_ | refine RunsE.no rfl ?_ | refine RunsE.exit rfl ?_)
  refine RunsE.drawS H [12] (by kernel_rfl) ?_; (try clear H); intro w H
  refine OpsD.take 0 rfl (by kernel_rfl) H (fun w H => Ev.move rfl) rfl ?_
  refine OpsD.take 1 rfl (by kernel_rfl) H (fun w H => Ev.move rfl) rfl ?_
  refine OpsD.take 2 rfl (by kernel_rfl) H (fun w H => Ev.move rfl) rfl ?_
  refine OpsD.take 3 rfl (by kernel_rfl) H (fun w H => Ev.move rfl) rfl ?_
  refine OpsD.take 4 rfl (by kernel_rfl) H (fun w H => Ev.iaSl (n := 46) (sz := 1) rfl rfl rfl (by kernel_rfl) (by omega)) rfl ?_
  refine OpsD.take 5 rfl (by kernel_rfl) H (fun w H => Ev.load H rfl (by kernel_rfl) (rdUs m0 (by omega))) rfl ?_
  refine OpsD.take 6 rfl (by kernel_rfl) H (fun w H => Ev.move rfl) rfl ?_
  refine OpsD.take 7 rfl (by kernel_rfl) H (fun w H => Ev.move rfl) rfl ?_
  refine OpsD.take 8 rfl (by kernel_rfl) H (fun w H => Ev.iaSl (n := 46) (sz := 1) rfl rfl rfl (by kernel_rfl) (by omega)) rfl ?_
  refine OpsD.take 9 rfl (by kernel_rfl) H (fun w H => Ev.load H rfl (by kernel_rfl) (rdUs m0 (by omega))) rfl ?_
  refine OpsD.take 10 rfl (by kernel_rfl) H (fun w H => Ev.add rfl rfl) rfl ?_
  refine OpsD.take 11 rfl (by kernel_rfl) H (fun w H => Ev.iaSl (n := 46) (sz := 1) rfl rfl rfl (by kernel_rfl) (by omega)) rfl ?_
  refine OpsD.one 12 (by kernel_rfl) (StepD.exnT rfl rfl (Ex.store1 H rfl rfl (by kernel_rfl) rfl u0 (by simp only [List.size_toArray, List.length_map, List.length_append]; omega) (hfr.sub (by omega)) (setUs (by omega))) ?_); (try clear H); intro _ w H
  refine OpsD.done (by kernel_rfl) ?_
  obtain ⟨v3, hv3⟩ : ∃ v, v = g3 v2 c d := ⟨_, rfl⟩
  have hl3 : v3.length = 16 := by rw [hv3]; simp [hl2]
  change SL w ((g, .cells ((g3 v2 c d).map U ++ sp).toArray T fr) :: F) at H
  rw [← hv3] at H
  refine RunsE.weaken (e' := [(0, _), (1, _), (2, _), (3, _), (4, _), (5, _), (6, _)]) ⟨rfl, rfl, rfl, rfl, rfl, rfl, rfl, trivial⟩ ?_
  repeat (first | refine RunsE.seq ?_ | refine RunsE.skip ?_ | refine RunsE.block ?_ | refine RunsE.inBlock ?_ | refine RunsE.yes rfl ?_ | refine RunsE.no rfl ?_ | refine RunsE.exit rfl ?_)
  refine RunsE.drawS H [13] (by kernel_rfl) ?_; (try clear H); intro w H
  refine OpsD.take 0 rfl (by kernel_rfl) H (fun w H => Ev.move rfl) rfl ?_
  refine OpsD.take 1 rfl (by kernel_rfl) H (fun w H => Ev.move rfl) rfl ?_
  refine OpsD.take 2 rfl (by kernel_rfl) H (fun w H => Ev.move rfl) rfl ?_
  refine OpsD.take 3 rfl (by kernel_rfl) H (fun w H => Ev.move rfl) rfl ?_
  refine OpsD.take 4 rfl (by kernel_rfl) H (fun w H => Ev.iaSl (n := 46) (sz := 1) rfl rfl rfl (by kernel_rfl) (by omega)) rfl ?_
  refine OpsD.take 5 rfl (by kernel_rfl) H (fun w H => Ev.load H rfl (by kernel_rfl) (rdUs m0 (by omega))) rfl ?_
  refine OpsD.take 6 rfl (by kernel_rfl) H (fun w H => Ev.move rfl) rfl ?_
  refine OpsD.take 7 rfl (by kernel_rfl) H (fun w H => Ev.move rfl) rfl ?_
  refine OpsD.take 8 rfl (by kernel_rfl) H (fun w H => Ev.iaSl (n := 46) (sz := 1) rfl rfl rfl (by kernel_rfl) (by omega)) rfl ?_
  refine OpsD.take 9 rfl (by kernel_rfl) H (fun w H => Ev.load H rfl (by kernel_rfl) (rdUs m0 (by omega))) rfl ?_
  refine OpsD.take 10 rfl (by kernel_rfl) H (fun w H => Ev.xor rfl rfl) rfl ?_
  refine OpsD.one 11 (by kernel_rfl) (StepD.ex rfl (Ex.call rfl Tryd.call32 (right_spec _ 12 (by omega) w _ H)) rfl ?_); (try clear H); rintro _ w ⟨rfl, H⟩; refine ⟨(by first | exact H | exact H.drop | exact H.drop.drop | exact H.dropL), ?_⟩
  refine OpsD.take 12 rfl (by kernel_rfl) H (fun w H => Ev.iaSl (n := 46) (sz := 1) rfl rfl rfl (by kernel_rfl) (by omega)) rfl ?_
  refine OpsD.one 13 (by kernel_rfl) (StepD.exnT rfl rfl (Ex.store1 H rfl rfl (by kernel_rfl) rfl u0 (by simp only [List.size_toArray, List.length_map, List.length_append]; omega) (hfr.sub (by omega)) (setUs (by omega))) ?_); (try clear H); intro _ w H
  refine OpsD.done (by kernel_rfl) ?_
  obtain ⟨v4, hv4⟩ : ∃ v, v = g2 v3 b c 12 := ⟨_, rfl⟩
  have hl4 : v4.length = 16 := by rw [hv4]; simp [hl3]
  change SL w ((g, .cells ((g2 v3 b c 12).map U ++ sp).toArray T fr) :: F) at H
  rw [← hv4] at H
  refine RunsE.weaken (e' := [(0, _), (1, _), (2, _), (3, _), (4, _), (5, _), (6, _)]) ⟨rfl, rfl, rfl, rfl, rfl, rfl, rfl, trivial⟩ ?_
  repeat (first | refine RunsE.seq ?_ | refine RunsE.skip ?_ | refine RunsE.block ?_ | refine RunsE.inBlock ?_ | refine RunsE.yes rfl ?_ | refine RunsE.no rfl ?_ | refine RunsE.exit rfl ?_)
  refine RunsE.drawS H [14] (by kernel_rfl) ?_; (try clear H); intro w H
  refine OpsD.take 0 rfl (by kernel_rfl) H (fun w H => Ev.move rfl) rfl ?_
  refine OpsD.take 1 rfl (by kernel_rfl) H (fun w H => Ev.move rfl) rfl ?_
  refine OpsD.take 2 rfl (by kernel_rfl) H (fun w H => Ev.move rfl) rfl ?_
  refine OpsD.take 3 rfl (by kernel_rfl) H (fun w H => Ev.move rfl) rfl ?_
  refine OpsD.take 4 rfl (by kernel_rfl) H (fun w H => Ev.iaSl (n := 46) (sz := 1) rfl rfl rfl (by kernel_rfl) (by omega)) rfl ?_
  refine OpsD.take 5 rfl (by kernel_rfl) H (fun w H => Ev.load H rfl (by kernel_rfl) (rdUs m0 (by omega))) rfl ?_
  refine OpsD.take 6 rfl (by kernel_rfl) H (fun w H => Ev.move rfl) rfl ?_
  refine OpsD.take 7 rfl (by kernel_rfl) H (fun w H => Ev.move rfl) rfl ?_
  refine OpsD.take 8 rfl (by kernel_rfl) H (fun w H => Ev.iaSl (n := 46) (sz := 1) rfl rfl rfl (by kernel_rfl) (by omega)) rfl ?_
  refine OpsD.take 9 rfl (by kernel_rfl) H (fun w H => Ev.load H rfl (by kernel_rfl) (rdUs m0 (by omega))) rfl ?_
  refine OpsD.take 10 rfl (by kernel_rfl) H (fun w H => Ev.add rfl rfl) rfl ?_
  refine OpsD.take 11 rfl (by kernel_rfl) H (fun w H => Ev.move rfl) rfl ?_
  refine OpsD.take 12 rfl (by kernel_rfl) H (fun w H => Ev.add rfl rfl) rfl ?_
  refine OpsD.take 13 rfl (by kernel_rfl) H (fun w H => Ev.iaSl (n := 46) (sz := 1) rfl rfl rfl (by kernel_rfl) (by omega)) rfl ?_
  refine OpsD.one 14 (by kernel_rfl) (StepD.exnT rfl rfl (Ex.store1 H rfl rfl (by kernel_rfl) rfl u0 (by simp only [List.size_toArray, List.length_map, List.length_append]; omega) (hfr.sub (by omega)) (setUs (by omega))) ?_); (try clear H); intro _ w H
  refine OpsD.done (by kernel_rfl) ?_
  obtain ⟨v5, hv5⟩ : ∃ v, v = g1 v4 a b y := ⟨_, rfl⟩
  have hl5 : v5.length = 16 := by rw [hv5]; simp [hl4]
  rw [BitVec.add_assoc] at H
  change SL w ((g, .cells ((g1 v4 a b y).map U ++ sp).toArray T fr) :: F) at H
  rw [← hv5] at H
  refine RunsE.weaken (e' := [(0, _), (1, _), (2, _), (3, _), (4, _), (5, _), (6, _)]) ⟨rfl, rfl, rfl, rfl, rfl, rfl, rfl, trivial⟩ ?_
  repeat (first | refine RunsE.seq ?_ | refine RunsE.skip ?_ | refine RunsE.block ?_ | refine RunsE.inBlock ?_ | refine RunsE.yes rfl ?_ | refine RunsE.no rfl ?_ | refine RunsE.exit rfl ?_)
  refine RunsE.drawS H [13] (by kernel_rfl) ?_; (try clear H); intro w H
  refine OpsD.take 0 rfl (by kernel_rfl) H (fun w H => Ev.move rfl) rfl ?_
  refine OpsD.take 1 rfl (by kernel_rfl) H (fun w H => Ev.move rfl) rfl ?_
  refine OpsD.take 2 rfl (by kernel_rfl) H (fun w H => Ev.move rfl) rfl ?_
  refine OpsD.take 3 rfl (by kernel_rfl) H (fun w H => Ev.move rfl) rfl ?_
  refine OpsD.take 4 rfl (by kernel_rfl) H (fun w H => Ev.iaSl (n := 46) (sz := 1) rfl rfl rfl (by kernel_rfl) (by omega)) rfl ?_
  refine OpsD.take 5 rfl (by kernel_rfl) H (fun w H => Ev.load H rfl (by kernel_rfl) (rdUs m0 (by omega))) rfl ?_
  refine OpsD.take 6 rfl (by kernel_rfl) H (fun w H => Ev.move rfl) rfl ?_
  refine OpsD.take 7 rfl (by kernel_rfl) H (fun w H => Ev.move rfl) rfl ?_
  refine OpsD.take 8 rfl (by kernel_rfl) H (fun w H => Ev.iaSl (n := 46) (sz := 1) rfl rfl rfl (by kernel_rfl) (by omega)) rfl ?_
  refine OpsD.take 9 rfl (by kernel_rfl) H (fun w H => Ev.load H rfl (by kernel_rfl) (rdUs m0 (by omega))) rfl ?_
  refine OpsD.take 10 rfl (by kernel_rfl) H (fun w H => Ev.xor rfl rfl) rfl ?_
  refine OpsD.one 11 (by kernel_rfl) (StepD.ex rfl (Ex.call rfl Tryd.call32 (right_spec _ 8 (by omega) w _ H)) rfl ?_); (try clear H); rintro _ w ⟨rfl, H⟩; refine ⟨(by first | exact H | exact H.drop | exact H.drop.drop | exact H.dropL), ?_⟩
  refine OpsD.take 12 rfl (by kernel_rfl) H (fun w H => Ev.iaSl (n := 46) (sz := 1) rfl rfl rfl (by kernel_rfl) (by omega)) rfl ?_
  refine OpsD.one 13 (by kernel_rfl) (StepD.exnT rfl rfl (Ex.store1 H rfl rfl (by kernel_rfl) rfl u0 (by simp only [List.size_toArray, List.length_map, List.length_append]; omega) (hfr.sub (by omega)) (setUs (by omega))) ?_); (try clear H); intro _ w H
  refine OpsD.done (by kernel_rfl) ?_
  obtain ⟨v6, hv6⟩ : ∃ v, v = g2 v5 d a 8 := ⟨_, rfl⟩
  have hl6 : v6.length = 16 := by rw [hv6]; simp [hl5]
  change SL w ((g, .cells ((g2 v5 d a 8).map U ++ sp).toArray T fr) :: F) at H
  rw [← hv6] at H
  refine RunsE.weaken (e' := [(0, _), (1, _), (2, _), (3, _), (4, _), (5, _), (6, _)]) ⟨rfl, rfl, rfl, rfl, rfl, rfl, rfl, trivial⟩ ?_
  repeat (first | refine RunsE.seq ?_ | refine RunsE.skip ?_ | refine RunsE.block ?_ | refine RunsE.inBlock ?_ | refine RunsE.yes rfl ?_ | refine RunsE.no rfl ?_ | refine RunsE.exit rfl ?_)
  refine RunsE.drawS H [12] (by kernel_rfl) ?_; (try clear H); intro w H
  refine OpsD.take 0 rfl (by kernel_rfl) H (fun w H => Ev.move rfl) rfl ?_
  refine OpsD.take 1 rfl (by kernel_rfl) H (fun w H => Ev.move rfl) rfl ?_
  refine OpsD.take 2 rfl (by kernel_rfl) H (fun w H => Ev.move rfl) rfl ?_
  refine OpsD.take 3 rfl (by kernel_rfl) H (fun w H => Ev.move rfl) rfl ?_
  refine OpsD.take 4 rfl (by kernel_rfl) H (fun w H => Ev.iaSl (n := 46) (sz := 1) rfl rfl rfl (by kernel_rfl) (by omega)) rfl ?_
  refine OpsD.take 5 rfl (by kernel_rfl) H (fun w H => Ev.load H rfl (by kernel_rfl) (rdUs m0 (by omega))) rfl ?_
  refine OpsD.take 6 rfl (by kernel_rfl) H (fun w H => Ev.move rfl) rfl ?_
  refine OpsD.take 7 rfl (by kernel_rfl) H (fun w H => Ev.move rfl) rfl ?_
  refine OpsD.take 8 rfl (by kernel_rfl) H (fun w H => Ev.iaSl (n := 46) (sz := 1) rfl rfl rfl (by kernel_rfl) (by omega)) rfl ?_
  refine OpsD.take 9 rfl (by kernel_rfl) H (fun w H => Ev.load H rfl (by kernel_rfl) (rdUs m0 (by omega))) rfl ?_
  refine OpsD.take 10 rfl (by kernel_rfl) H (fun w H => Ev.add rfl rfl) rfl ?_
  refine OpsD.take 11 rfl (by kernel_rfl) H (fun w H => Ev.iaSl (n := 46) (sz := 1) rfl rfl rfl (by kernel_rfl) (by omega)) rfl ?_
  refine OpsD.one 12 (by kernel_rfl) (StepD.exnT rfl rfl (Ex.store1 H rfl rfl (by kernel_rfl) rfl u0 (by simp only [List.size_toArray, List.length_map, List.length_append]; omega) (hfr.sub (by omega)) (setUs (by omega))) ?_); (try clear H); intro _ w H
  refine OpsD.done (by kernel_rfl) ?_
  obtain ⟨v7, hv7⟩ : ∃ v, v = g3 v6 c d := ⟨_, rfl⟩
  have hl7 : v7.length = 16 := by rw [hv7]; simp [hl6]
  change SL w ((g, .cells ((g3 v6 c d).map U ++ sp).toArray T fr) :: F) at H
  rw [← hv7] at H
  refine RunsE.weaken (e' := [(0, _), (1, _), (2, _), (3, _), (4, _), (5, _), (6, _)]) ⟨rfl, rfl, rfl, rfl, rfl, rfl, rfl, trivial⟩ ?_
  repeat (first | refine RunsE.seq ?_ | refine RunsE.skip ?_ | refine RunsE.block ?_ | refine RunsE.inBlock ?_ | refine RunsE.yes rfl ?_ | refine RunsE.no rfl ?_ | refine RunsE.exit rfl ?_)
  refine RunsE.drawS H [13] (by kernel_rfl) ?_; (try clear H); intro w H
  refine OpsD.take 0 rfl (by kernel_rfl) H (fun w H => Ev.move rfl) rfl ?_
  refine OpsD.take 1 rfl (by kernel_rfl) H (fun w H => Ev.move rfl) rfl ?_
  refine OpsD.take 2 rfl (by kernel_rfl) H (fun w H => Ev.move rfl) rfl ?_
  refine OpsD.take 3 rfl (by kernel_rfl) H (fun w H => Ev.move rfl) rfl ?_
  refine OpsD.take 4 rfl (by kernel_rfl) H (fun w H => Ev.iaSl (n := 46) (sz := 1) rfl rfl rfl (by kernel_rfl) (by omega)) rfl ?_
  refine OpsD.take 5 rfl (by kernel_rfl) H (fun w H => Ev.load H rfl (by kernel_rfl) (rdUs m0 (by omega))) rfl ?_
  refine OpsD.take 6 rfl (by kernel_rfl) H (fun w H => Ev.move rfl) rfl ?_
  refine OpsD.take 7 rfl (by kernel_rfl) H (fun w H => Ev.move rfl) rfl ?_
  refine OpsD.take 8 rfl (by kernel_rfl) H (fun w H => Ev.iaSl (n := 46) (sz := 1) rfl rfl rfl (by kernel_rfl) (by omega)) rfl ?_
  refine OpsD.take 9 rfl (by kernel_rfl) H (fun w H => Ev.load H rfl (by kernel_rfl) (rdUs m0 (by omega))) rfl ?_
  refine OpsD.take 10 rfl (by kernel_rfl) H (fun w H => Ev.xor rfl rfl) rfl ?_
  refine OpsD.one 11 (by kernel_rfl) (StepD.ex rfl (Ex.call rfl Tryd.call32 (right_spec _ 7 (by omega) w _ H)) rfl ?_); (try clear H); rintro _ w ⟨rfl, H⟩; refine ⟨(by first | exact H | exact H.drop | exact H.drop.drop | exact H.dropL), ?_⟩
  refine OpsD.take 12 rfl (by kernel_rfl) H (fun w H => Ev.iaSl (n := 46) (sz := 1) rfl rfl rfl (by kernel_rfl) (by omega)) rfl ?_
  refine OpsD.one 13 (by kernel_rfl) (StepD.exnT rfl rfl (Ex.store1 H rfl rfl (by kernel_rfl) rfl u0 (by simp only [List.size_toArray, List.length_map, List.length_append]; omega) (hfr.sub (by omega)) (setUs (by omega))) ?_); (try clear H); intro _ w H
  refine OpsD.done (by kernel_rfl) ?_
  obtain ⟨v8, hv8⟩ : ∃ v, v = g2 v7 b c 7 := ⟨_, rfl⟩
  have hl8 : v8.length = 16 := by rw [hv8]; simp [hl7]
  change SL w ((g, .cells ((g2 v7 b c 7).map U ++ sp).toArray T fr) :: F) at H
  rw [← hv8] at H
  refine RunsE.weaken (e' := [(0, _), (1, _), (2, _), (3, _), (4, _), (5, _), (6, _)]) ⟨rfl, rfl, rfl, rfl, rfl, rfl, rfl, trivial⟩ ?_
  repeat (first | refine RunsE.seq ?_ | refine RunsE.skip ?_ | refine RunsE.block ?_ | refine RunsE.inBlock ?_ | refine RunsE.yes rfl ?_ | refine RunsE.no rfl ?_ | refine RunsE.exit rfl ?_)
  refine RunsE.end0 Tryd.func25 rfl ⟨rfl, ?_⟩
  simp only [mixL, ← hv1, ← hv2, ← hv3, ← hv4, ← hv5, ← hv6, ← hv7, ← hv8]
  exact H

end Go.Proofs.YtfohpgbeongjfaaDoor
