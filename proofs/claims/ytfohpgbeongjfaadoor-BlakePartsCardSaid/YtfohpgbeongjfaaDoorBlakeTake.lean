/-
  The program's compression ('first', 'take'): it computes 'compress'.
-/
import Derived.Test.YtfohpgbeongjfaaDoorBlakeMix
namespace Go.Proofs.YtfohpgbeongjfaaDoor
open Go.Proofs.YtfohpgbeongjfaaDoor.V

/-- The table 'order' lies in F. -/
def OrderIn (F : List (Nat × Obj)) : Prop := ∀ r i, r < 10 → i < 16 → Rd F ⟨1, 16 * r + i, none⟩ (.int .u8 ((sg r i : Nat) : Int))

theorem OrderIn.tail {F : List (Nat × Obj)} {x : Nat × Obj} (h : OrderIn F) : OrderIn (x :: F) := fun r i hr hi => (h r i hr hi).tail

theorem first_spec [Strm] (w : World) (F : List (Nat × Obj)) (H : SL w F) :
    Does Tryd.prog 19 #[] w fun v w' => v = .agg (iv.map U).toArray ∧ SL w' F := by
  refine Does.intro (args := []) (e := []) Tryd.func19 rfl Tryd.ntmps19 rfl rfl ?_
  repeat (first | refine RunsE.seq ?_ | refine RunsE.skip ?_ | refine RunsE.block ?_ | refine RunsE.inBlock ?_ | refine RunsE.yes rfl ?_ | refine RunsE.no rfl ?_ | refine RunsE.exit rfl ?_)
  repeat (first | refine RunsE.seq ?_ | refine RunsE.skip ?_ | refine RunsE.block ?_ | refine RunsE.inBlock ?_ | refine RunsE.yes rfl ?_ | refine RunsE.no rfl ?_ | refine RunsE.exit rfl ?_)
  refine RunsE.region ?_
  refine OpsE.ex (Ex.alloc (zv := .agg (List.replicate 8 (.int .u32 0)).toArray) H (by kernel_rfl)) rfl ?_; (try clear H); rintro _ w ⟨b0, rfl, H⟩; simp only [Value.cells] at H
  refine OpsE.nil ?_
  repeat (first | refine RunsE.seq ?_ | refine RunsE.skip ?_ | refine RunsE.block ?_ | refine RunsE.inBlock ?_ | refine RunsE.yes rfl ?_ | refine RunsE.no rfl ?_ | refine RunsE.exit rfl ?_)
  refine RunsE.region ?_
  refine OpsE.ev (Ev.buildArr (n := 8) (zv := .agg (List.replicate 8 (.int .u32 0)).toArray) rfl (by kernel_rfl) (by kernel_rfl) (by rfl) (by simp [Value.oneCell']) rfl) rfl ?_
  refine OpsE.exn (Ex.storeBlk (n := 8) (vs := iv.map U) H rfl rfl (by kernel_rfl) rfl (by decide) u0 (by rfl) (Thaw.zero _ _)) ?_; (try clear H); intro _ w H
  refine OpsE.nil ?_
  repeat (first | refine RunsE.seq ?_ | refine RunsE.skip ?_ | refine RunsE.block ?_ | refine RunsE.inBlock ?_ | refine RunsE.yes rfl ?_ | refine RunsE.no rfl ?_ | refine RunsE.exit rfl ?_)
  exact RunsE.retBlk (m := 8) H Tryd.func19 rfl rfl (by kernel_rfl) rfl m0 ⟨rfl, H.drop⟩

theorem zero16 : (List.replicate 16 (Value.int .u32 0)).toArray = ((prt 16 (fun _ => 0) (fun _ => 0) 0).map U).toArray := by rfl

theorem OrderIn.row {F : List (Nat × Obj)} (h : OrderIn F) {r : Nat} (hr : r < 10) : ∀ i v, (sgRow r)[i]? = some v → Rd F (Addr.add ⟨1, 0 + r * 16, none⟩ i) v := fun i v hi => by
  have hlt : i < 16 := by
    rcases Nat.lt_or_ge i 16 with h' | h'
    · exact h'
    · rw [List.getElem?_eq_none (by simpa [sgRow] using h')] at hi; cases hi
  have e : (sgRow r)[i]? = some (.int .u8 ((sg r i : Nat) : Int)) := by simp [sgRow, hlt]
  rw [e] at hi
  cases hi
  rw [add_none, show 0 + r * 16 + i = 16 * r + i by omega]
  exact h r i hr hlt

theorem memF {α : Type} {x : α} {F : List α} (h : x ∈ F) {a : α} : x ∈ a :: F := .tail _ h

set_option maxHeartbeats 2000000 in
theorem take_spec [Strm] (hs : List W32) (bs : List UInt8) (t : Nat) (last : Bool) (g : Nat) (T : TypeId) (sp : List Value) (hl : hs.length = 8) (hb : bs.length = 64)
    (w : World) (F : List (Nat × Obj)) (hG : OrderIn F) (H : SL w ((g, .cells (hs.map U ++ sp).toArray T (0, 0)) :: F)) :
    Does Tryd.prog 23 #[.pointer (some ⟨g, 0, none⟩), .agg (bs.map BV).toArray, .int .u64 (t : Int), .bool last] w
      fun v w' => v = .tuple #[] ∧ SL w' ((g, .cells ((compress hs bs t last).map U ++ sp).toArray T (0, 0)) :: F) := by
  refine Does.intro (args := [_, _, _, _]) (e := [(0, _), (1, _), (2, _), (3, _)]) Tryd.func23 rfl Tryd.ntmps23 rfl rfl ?_
  repeat (first | refine RunsE.seq ?_ | refine RunsE.skip ?_ | refine RunsE.block ?_ | refine RunsE.inBlock ?_ | refine RunsE.yes rfl ?_ | refine RunsE.no rfl ?_ | refine RunsE.exit rfl ?_)
  repeat (first | refine RunsE.seq ?_ | refine RunsE.skip ?_ | refine RunsE.block ?_ | refine RunsE.inBlock ?_ | refine RunsE.yes rfl ?_ | refine RunsE.no rfl ?_ | refine RunsE.exit rfl ?_)
  refine RunsE.region ?_
  refine OpsE.ex (Ex.box H rfl) rfl ?_; (try clear H); rintro _ w ⟨b5, rfl, H⟩; simp only [Value.cells] at H
  refine OpsE.nil ?_
  repeat (first | refine RunsE.seq ?_ | refine RunsE.skip ?_ | refine RunsE.block ?_ | refine RunsE.inBlock ?_ | refine RunsE.yes rfl ?_ | refine RunsE.no rfl ?_ | refine RunsE.exit rfl ?_)
  refine RunsE.region ?_
  refine OpsE.ex (Ex.alloc (zv := .agg (List.replicate 16 (.int .u32 0)).toArray) H (by kernel_rfl)) rfl ?_; (try clear H); rintro _ w ⟨b8, rfl, H⟩; simp only [Value.cells] at H
  refine OpsE.ex (Ex.alloc (zv := .agg (List.replicate 16 (.int .u32 0)).toArray) H (by kernel_rfl)) rfl ?_; (try clear H); rintro _ w ⟨b9, rfl, H⟩; simp only [Value.cells] at H
  refine OpsE.nil ?_
  rw [zero16] at H
  repeat (first | refine RunsE.seq ?_ | refine RunsE.skip ?_ | refine RunsE.block ?_ | refine RunsE.inBlock ?_ | refine RunsE.yes rfl ?_ | refine RunsE.no rfl ?_ | refine RunsE.exit rfl ?_)
  refine RunsE.region ?_
  refine OpsE.ev (Ev.move rfl) rfl ?_
  refine OpsE.nil ?_
  repeat (first | refine RunsE.seq ?_ | refine RunsE.skip ?_ | refine RunsE.block ?_ | refine RunsE.inBlock ?_ | refine RunsE.yes rfl ?_ | refine RunsE.no rfl ?_ | refine RunsE.exit rfl ?_)
  refine RunsE.loop (fun i : Nat => [(0, .pointer (some ⟨g, 0, none⟩)), (2, .int .u64 (t : Int)), (3, .bool last), (5, .pointer (some ⟨b5, 0, none⟩)), (8, .pointer (some ⟨b8, 0, none⟩)), (9, .pointer (some ⟨b9, 0, none⟩)), (17, .int .i64 (i : Int))])
    (fun i w => i ≤ 16 ∧ SL w ((b9, .cells ((prt 16 (fun _ => 0) (fun _ => 0) 0).map U).toArray 80 (0, 0)) :: (b8, .cells ((prt 16 (wordAt bs) (fun _ => 0) i).map U).toArray 80 (0, 0)) :: (b5, .cells (bs.map BV).toArray 61 (0, 0)) :: (g, .cells (hs.map U ++ sp).toArray T (0, 0)) :: F))
    (fun i => 16 - i) 0 ⟨rfl, rfl, rfl, rfl, rfl, rfl, rfl, trivial⟩ ⟨by omega, H⟩ ?_
  clear H
  rintro i w ⟨hi, H⟩ next
  by_cases h : i < 16
  ·
    repeat (first | refine RunsE.seq ?_ | refine RunsE.skip ?_ | refine RunsE.block ?_ | refine RunsE.inBlock ?_ | refine RunsE.yes rfl ?_ | refine RunsE.no rfl ?_ | refine RunsE.exit rfl ?_)
    refine RunsE.region ?_
    refine OpsE.ev (Ev.lss rfl rfl) rfl ?_
    refine OpsE.nil ?_
    repeat (first | refine RunsE.seq ?_ | refine RunsE.skip ?_ | refine RunsE.block ?_ | refine RunsE.inBlock ?_ | refine RunsE.yes rfl ?_ | refine RunsE.no rfl ?_ | refine RunsE.exit rfl ?_)
    refine RunsE.region ?_
    refine OpsE.ev (Ev.move rfl) rfl ?_
    refine OpsE.ev (Ev.assign rfl) rfl ?_
    refine OpsE.nil ?_
    repeat (first | refine RunsE.seq ?_ | refine RunsE.skip ?_ | refine RunsE.block ?_ | refine RunsE.inBlock ?_ | refine RunsE.yes rfl ?_ | refine RunsE.no rfl ?_ | refine RunsE.exit rfl ?_)
    refine RunsE.drawS H [31] (by kernel_rfl) ?_; (try clear H); intro w H
    refine OpsD.take 0 rfl (by kernel_rfl) H (fun w H => Ev.move rfl) rfl ?_
    refine OpsD.take 1 rfl (by kernel_rfl) H (fun w H => Ev.move rfl) rfl ?_
    refine OpsD.take 2 rfl (by kernel_rfl) H (fun w H => Ev.mul rfl rfl) rfl ?_
    refine OpsD.take 3 rfl (by kernel_rfl) H (fun w H => Ev.iaArr (n := 64) (sz := 1) (m := 4 * i) rfl rfl (by omega) (by kernel_rfl) (by omega)) rfl ?_
    refine OpsD.take 4 rfl (by kernel_rfl) H (fun w H => Ev.load H rfl (by kernel_rfl) (rdB m2 (by omega))) rfl ?_
    refine OpsD.take 5 rfl (by kernel_rfl) H (fun w H => Ev.conv (k' := .u32) rfl (by kernel_rfl) (by kernel_rfl)) rfl ?_
    refine OpsD.take 6 rfl (by kernel_rfl) H (fun w H => Ev.move rfl) rfl ?_
    refine OpsD.take 7 rfl (by kernel_rfl) H (fun w H => Ev.mul rfl rfl) rfl ?_
    refine OpsD.take 8 rfl (by kernel_rfl) H (fun w H => Ev.add rfl rfl) rfl ?_
    refine OpsD.take 9 rfl (by kernel_rfl) H (fun w H => Ev.iaArr (n := 64) (sz := 1) (m := 4 * i + 1) rfl rfl (by omega) (by kernel_rfl) (by omega)) rfl ?_
    refine OpsD.take 10 rfl (by kernel_rfl) H (fun w H => Ev.load H rfl (by kernel_rfl) (rdB m2 (by omega))) rfl ?_
    refine OpsD.take 11 rfl (by kernel_rfl) H (fun w H => Ev.conv (k' := .u32) rfl (by kernel_rfl) (by kernel_rfl)) rfl ?_
    refine OpsD.take 12 rfl (by kernel_rfl) H (fun w H => Ev.shl rfl rfl (by omega)) rfl ?_
    refine OpsD.take 13 rfl (by kernel_rfl) H (fun w H => Ev.or rfl rfl) rfl ?_
    refine OpsD.take 14 rfl (by kernel_rfl) H (fun w H => Ev.move rfl) rfl ?_
    refine OpsD.take 15 rfl (by kernel_rfl) H (fun w H => Ev.mul rfl rfl) rfl ?_
    refine OpsD.take 16 rfl (by kernel_rfl) H (fun w H => Ev.add rfl rfl) rfl ?_
    refine OpsD.take 17 rfl (by kernel_rfl) H (fun w H => Ev.iaArr (n := 64) (sz := 1) (m := 4 * i + 2) rfl rfl (by omega) (by kernel_rfl) (by omega)) rfl ?_
    refine OpsD.take 18 rfl (by kernel_rfl) H (fun w H => Ev.load H rfl (by kernel_rfl) (rdB m2 (by omega))) rfl ?_
    refine OpsD.take 19 rfl (by kernel_rfl) H (fun w H => Ev.conv (k' := .u32) rfl (by kernel_rfl) (by kernel_rfl)) rfl ?_
    refine OpsD.take 20 rfl (by kernel_rfl) H (fun w H => Ev.shl rfl rfl (by omega)) rfl ?_
    refine OpsD.take 21 rfl (by kernel_rfl) H (fun w H => Ev.or rfl rfl) rfl ?_
    refine OpsD.take 22 rfl (by kernel_rfl) H (fun w H => Ev.move rfl) rfl ?_
    refine OpsD.take 23 rfl (by kernel_rfl) H (fun w H => Ev.mul rfl rfl) rfl ?_
    refine OpsD.take 24 rfl (by kernel_rfl) H (fun w H => Ev.add rfl rfl) rfl ?_
    refine OpsD.take 25 rfl (by kernel_rfl) H (fun w H => Ev.iaArr (n := 64) (sz := 1) (m := 4 * i + 3) rfl rfl (by omega) (by kernel_rfl) (by omega)) rfl ?_
    refine OpsD.take 26 rfl (by kernel_rfl) H (fun w H => Ev.load H rfl (by kernel_rfl) (rdB m2 (by omega))) rfl ?_
    refine OpsD.take 27 rfl (by kernel_rfl) H (fun w H => Ev.conv (k' := .u32) rfl (by kernel_rfl) (by kernel_rfl)) rfl ?_
    refine OpsD.take 28 rfl (by kernel_rfl) H (fun w H => Ev.shl rfl rfl (by omega)) rfl ?_
    refine OpsD.take 29 rfl (by kernel_rfl) H (fun w H => Ev.or rfl rfl) rfl ?_
    refine OpsD.take 30 rfl (by kernel_rfl) H (fun w H => Ev.iaArr (n := 16) (sz := 1) rfl rfl rfl (by kernel_rfl) (by omega)) rfl ?_
    refine OpsD.one 31 (by kernel_rfl) (StepD.exnT rfl rfl (Ex.store1 (v := U (wordAt bs i)) H rfl (congrArg (fun x => some (U x)) (word_or _ _ _ _ (blt _) (blt _) (blt _) (blt _))) (by kernel_rfl) rfl u1 (by simp; omega) (Thaw.zero _ _) setU) ?_); (try clear H); intro _ w H
    refine OpsD.done (by kernel_rfl) ?_
    rw [prt_set] at H
    repeat (first | refine RunsE.seq ?_ | refine RunsE.skip ?_ | refine RunsE.block ?_ | refine RunsE.inBlock ?_ | refine RunsE.yes rfl ?_ | refine RunsE.no rfl ?_ | refine RunsE.exit rfl ?_)
    refine RunsE.region ?_
    refine OpsE.ev (Ev.add rfl rfl) rfl ?_
    refine OpsE.ev (Ev.move rfl) rfl ?_
    refine OpsE.nil ?_
    repeat (first | refine RunsE.seq ?_ | refine RunsE.skip ?_ | refine RunsE.block ?_ | refine RunsE.inBlock ?_ | refine RunsE.yes rfl ?_ | refine RunsE.no rfl ?_ | refine RunsE.exit rfl ?_)
    exact next (i + 1) _ _ (by omega) ⟨by omega, H⟩ ⟨rfl, rfl, rfl, rfl, rfl, rfl, rfl, trivial⟩
  clear next
  obtain rfl : i = 16 := by omega
  rw [prt_all, prt_zero] at H
  change SL w (_ :: (b8, .cells ((words bs).map U).toArray 80 (0, 0)) :: _) at H
  change SL w ((b9, .cells ((List.replicate 16 (0 : W32)).map U).toArray 80 (0, 0)) :: _) at H
  repeat (first | refine RunsE.seq ?_ | refine RunsE.skip ?_ | refine RunsE.block ?_ | refine RunsE.inBlock ?_ | refine RunsE.yes rfl ?_ | refine RunsE.no rfl ?_ | refine RunsE.exit rfl ?_)
  refine RunsE.region ?_
  refine OpsE.ev (Ev.lss rfl rfl) rfl ?_
  refine OpsE.nil ?_
  repeat (first | refine RunsE.seq ?_ | refine RunsE.skip ?_ | refine RunsE.block ?_ | refine RunsE.inBlock ?_ | refine RunsE.yes rfl ?_ | refine RunsE.no rfl ?_ | refine RunsE.exit rfl ?_)
  refine RunsE.drawS H [4] (by kernel_rfl) ?_; (try clear H); intro w H
  refine OpsD.take 0 rfl (by kernel_rfl) H (fun w H => Ev.slArr (n := 16) (sz := 1) rfl (by kernel_rfl) (rfl) (rfl) (by omega) (by omega) (by omega)) rfl ?_
  refine OpsD.take 1 rfl (by kernel_rfl) H (fun w H => Ev.move rfl) rfl ?_
  refine OpsD.take 2 rfl (by kernel_rfl) H (fun w H => Ev.nilCheck rfl) rfl ?_
  refine OpsD.take 3 rfl (by kernel_rfl) H (fun w H => Ev.slArr (n := 8) (sz := 1) rfl (by kernel_rfl) (rfl) (rfl) (by omega) (by omega) (by omega)) rfl ?_
  refine OpsD.one 4 (by kernel_rfl) (StepD.exT rfl rfl (Ex.copy (n := 8) (sz := 1) (el := 46) (vs := hs.map U) H rfl rfl (by kernel_rfl) rfl (by simp [hl]) (rdRow m3) (by simp [Value.oneCell']) u0 (by simp) (Thaw.zero _ _) (copy_lo hl)) rfl ?_); (try clear H); rintro _ w ⟨rfl, H⟩
  refine OpsD.done (by kernel_rfl) ?_
  repeat (first | refine RunsE.seq ?_ | refine RunsE.skip ?_ | refine RunsE.block ?_ | refine RunsE.inBlock ?_ | refine RunsE.yes rfl ?_ | refine RunsE.no rfl ?_ | refine RunsE.exit rfl ?_)
  refine RunsE.region ?_
  refine OpsE.ex (Ex.call rfl Tryd.call19 (first_spec w _ H)) rfl ?_; (try clear H); rintro _ w ⟨rfl, H⟩
  refine OpsE.ex (Ex.alloc (zv := .agg (List.replicate 8 (.int .u32 0)).toArray) H (by kernel_rfl)) rfl ?_; (try clear H); rintro _ w ⟨b11, rfl, H⟩; simp only [Value.cells] at H
  refine OpsE.exn (Ex.storeBlk (n := 8) (vs := iv.map U) H rfl rfl (by kernel_rfl) rfl (by simp [Value.oneCell']) u0 (by rfl) (Thaw.zero _ _)) ?_; (try clear H); intro _ w H
  refine OpsE.nil ?_
  repeat (first | refine RunsE.seq ?_ | refine RunsE.skip ?_ | refine RunsE.block ?_ | refine RunsE.inBlock ?_ | refine RunsE.yes rfl ?_ | refine RunsE.no rfl ?_ | refine RunsE.exit rfl ?_)
  refine RunsE.drawS H [2] (by kernel_rfl) ?_; (try clear H); intro w H
  refine OpsD.take 0 rfl (by kernel_rfl) H (fun w H => Ev.slArr (n := 16) (sz := 1) (l := 8) rfl (by kernel_rfl) (⟨_, rfl⟩) (rfl) (by omega) (by omega) (by omega)) rfl ?_
  refine OpsD.take 1 rfl (by kernel_rfl) H (fun w H => Ev.slArr (n := 8) (sz := 1) rfl (by kernel_rfl) (rfl) (rfl) (by omega) (by omega) (by omega)) rfl ?_
  refine OpsD.one 2 (by kernel_rfl) (StepD.exT rfl rfl (Ex.copy (n := 8) (sz := 1) (el := 46) (vs := iv.map U) H rfl rfl (by kernel_rfl) rfl rfl (rdRow0 m0) (by simp [Value.oneCell']) u1 (by simp [hl]) (Thaw.zero _ _) (copy_hi hl)) rfl ?_); (try clear H); rintro _ w ⟨rfl, H⟩
  refine OpsD.done (by kernel_rfl) ?_
  replace H := H.drop.drop2
  have hv0 : (hs ++ iv).length = 16 := by simp [hl, iv]
  refine RunsE.weaken (e' := [(0, _), (2, _), (3, _), (8, _), (9, _)]) ⟨rfl, rfl, rfl, rfl, rfl, trivial⟩ ?_
  repeat (first | refine RunsE.seq ?_ | refine RunsE.skip ?_ | refine RunsE.block ?_ | refine RunsE.inBlock ?_ | refine RunsE.yes rfl ?_ | refine RunsE.no rfl ?_ | refine RunsE.exit rfl ?_)
  refine RunsE.region ?_
  refine OpsE.ev (Ev.iaArr (n := 16) (sz := 1) (m := 12) rfl rfl rfl (by kernel_rfl) (by omega)) rfl ?_
  refine OpsE.ev (Ev.load H rfl (by kernel_rfl) (rdU m0 (by omega))) rfl ?_
  refine OpsE.ev (Ev.move rfl) rfl ?_
  refine OpsE.ev (Ev.conv (k' := .u32) rfl (by kernel_rfl) (by kernel_rfl)) rfl ?_
  refine OpsE.ev (Ev.xor rfl rfl) rfl ?_
  refine OpsE.ev (Ev.iaArr (n := 16) (sz := 1) (m := 12) rfl rfl rfl (by kernel_rfl) (by omega)) rfl ?_
  refine OpsE.exn (Ex.store1 H rfl rfl (by kernel_rfl) rfl u0 (by simp only [List.size_toArray, List.length_map]; omega) (Thaw.zero _ _) setU) ?_; (try clear H); intro _ w H
  refine OpsE.nil ?_
  obtain ⟨v1, hv1⟩ : ∃ v, v = (hs ++ iv).set 12 ((hs ++ iv).getD 12 0 ^^^ BitVec.ofNat 32 t) := ⟨_, rfl⟩
  rw [← hv1] at H
  have hl1 : v1.length = 16 := by rw [hv1, List.length_set]; exact hv0
  repeat (first | refine RunsE.seq ?_ | refine RunsE.skip ?_ | refine RunsE.block ?_ | refine RunsE.inBlock ?_ | refine RunsE.yes rfl ?_ | refine RunsE.no rfl ?_ | refine RunsE.exit rfl ?_)
  refine RunsE.region ?_
  refine OpsE.ev (Ev.iaArr (n := 16) (sz := 1) (m := 13) rfl rfl rfl (by kernel_rfl) (by omega)) rfl ?_
  refine OpsE.ev (Ev.load H rfl (by kernel_rfl) (rdU m0 (by omega))) rfl ?_
  refine OpsE.ev (Ev.move rfl) rfl ?_
  refine OpsE.ev (Ev.shr rfl rfl (by omega) (shr_hi t)) rfl ?_
  refine OpsE.ev (Ev.conv (k' := .u32) rfl (by kernel_rfl) (by kernel_rfl) (q32_wrap _)) rfl ?_
  refine OpsE.ev (Ev.xor rfl rfl) rfl ?_
  refine OpsE.ev (Ev.iaArr (n := 16) (sz := 1) (m := 13) rfl rfl rfl (by kernel_rfl) (by omega)) rfl ?_
  refine OpsE.exn (Ex.store1 H rfl rfl (by kernel_rfl) rfl u0 (by simp only [List.size_toArray, List.length_map]; omega) (Thaw.zero _ _) setU) ?_; (try clear H); intro _ w H
  refine OpsE.nil ?_
  obtain ⟨v2, hv2⟩ : ∃ v, v = v1.set 13 (v1.getD 13 0 ^^^ BitVec.ofNat 32 (t / 4294967296)) := ⟨_, rfl⟩
  rw [← hv2] at H
  have hl2 : v2.length = 16 := by rw [hv2, List.length_set]; exact hl1
  repeat (first | refine RunsE.seq ?_ | refine RunsE.skip ?_ | refine RunsE.block ?_ | refine RunsE.inBlock ?_ | refine RunsE.yes rfl ?_ | refine RunsE.no rfl ?_ | refine RunsE.exit rfl ?_)
  refine RunsE.region ?_
  refine OpsE.ev (Ev.move rfl) rfl ?_
  refine OpsE.nil ?_
  repeat (first | refine RunsE.seq ?_ | refine RunsE.skip ?_ | refine RunsE.block ?_ | refine RunsE.inBlock ?_ | refine RunsE.yes rfl ?_ | refine RunsE.no rfl ?_ | refine RunsE.exit rfl ?_)
  refine RunsE.join (fun _ : Unit => [(0, .pointer (some ⟨g, 0, none⟩)), (8, .pointer (some ⟨b8, 0, none⟩)), (9, .pointer (some ⟨b9, 0, none⟩))])
    (fun _ w => SL w ((b9, .cells ((startW hs t last).map U).toArray 80 (0, 0)) :: (b8, .cells ((words bs).map U).toArray 80 (0, 0)) :: (g, .cells (hs.map U ++ sp).toArray T (0, 0)) :: F)) (fun next => ?_) ?_
  · cases last with
    | false =>
      refine RunsE.no rfl ?_
      refine RunsE.skip ?_
      exact next () _ _ (by simp only [startW, ← hv1, ← hv2]; exact H) ⟨rfl, rfl, rfl, trivial⟩
    | true =>
      repeat (first | refine RunsE.seq ?_ | refine RunsE.skip ?_ | refine RunsE.block ?_ | refine RunsE.inBlock ?_ | refine RunsE.yes rfl ?_ | refine RunsE.no rfl ?_ | refine RunsE.exit rfl ?_)
      refine RunsE.region ?_
      refine OpsE.ev (Ev.iaArr (n := 16) (sz := 1) (m := 14) rfl rfl rfl (by kernel_rfl) (by omega)) rfl ?_
      refine OpsE.ev (Ev.load H rfl (by kernel_rfl) (rdU m0 (by omega))) rfl ?_
      refine OpsE.ev (Ev.compl rfl) rfl ?_
      refine OpsE.ev (Ev.iaArr (n := 16) (sz := 1) (m := 14) rfl rfl rfl (by kernel_rfl) (by omega)) rfl ?_
      refine OpsE.exn (Ex.store1 H rfl rfl (by kernel_rfl) rfl u0 (by simp only [List.size_toArray, List.length_map]; omega) (Thaw.zero _ _) setU) ?_; (try clear H); intro _ w H
      refine OpsE.nil ?_
      exact next () _ _ (by simp only [startW, ← hv1, ← hv2]; exact H) ⟨rfl, rfl, rfl, trivial⟩
  clear H
  intro _ w H
  have hls : (startW hs t last).length = 16 := startW_length hs t last hl
  obtain ⟨v0, hv0'⟩ : ∃ v, v = startW hs t last := ⟨_, rfl⟩
  rw [← hv0'] at H hls
  repeat (first | refine RunsE.seq ?_ | refine RunsE.skip ?_ | refine RunsE.block ?_ | refine RunsE.inBlock ?_ | refine RunsE.yes rfl ?_ | refine RunsE.no rfl ?_ | refine RunsE.exit rfl ?_)
  refine RunsE.region ?_
  refine OpsE.ev (Ev.move rfl) rfl ?_
  refine OpsE.nil ?_
  repeat (first | refine RunsE.seq ?_ | refine RunsE.skip ?_ | refine RunsE.block ?_ | refine RunsE.inBlock ?_ | refine RunsE.yes rfl ?_ | refine RunsE.no rfl ?_ | refine RunsE.exit rfl ?_)
  refine RunsE.loop (fun r : Nat => [(0, .pointer (some ⟨g, 0, none⟩)), (8, .pointer (some ⟨b8, 0, none⟩)), (9, .pointer (some ⟨b9, 0, none⟩)), (79, .int .i64 (r : Int))])
    (fun r w => r ≤ 10 ∧ SL w ((b9, .cells ((rnds (words bs) v0 r).map U).toArray 80 (0, 0)) :: (b8, .cells ((words bs).map U).toArray 80 (0, 0)) :: (g, .cells (hs.map U ++ sp).toArray T (0, 0)) :: F))
    (fun r => 10 - r) 0 ⟨rfl, rfl, rfl, rfl, trivial⟩ ⟨by omega, H⟩ ?_
  clear H
  rintro r w ⟨hr, H⟩ nextR
  by_cases h10 : r < 10
  · obtain ⟨vr, hvr⟩ : ∃ v, v = rnds (words bs) v0 r := ⟨_, rfl⟩
    have hlr : vr.length = 16 := by rw [hvr, rnds_length]; exact hls
    rw [← hvr] at H
    repeat (first | refine RunsE.seq ?_ | refine RunsE.skip ?_ | refine RunsE.block ?_ | refine RunsE.inBlock ?_ | refine RunsE.yes rfl ?_ | refine RunsE.no rfl ?_ | refine RunsE.exit rfl ?_)
    refine RunsE.region ?_
    refine OpsE.ev (Ev.lss rfl rfl) rfl ?_
    refine OpsE.nil ?_
    repeat (first | refine RunsE.seq ?_ | refine RunsE.skip ?_ | refine RunsE.block ?_ | refine RunsE.inBlock ?_ | refine RunsE.yes rfl ?_ | refine RunsE.no rfl ?_ | refine RunsE.exit rfl ?_)
    refine RunsE.region ?_
    refine OpsE.ev (Ev.move rfl) rfl ?_
    refine OpsE.ev (Ev.assign rfl) rfl ?_
    refine OpsE.nil ?_
    repeat (first | refine RunsE.seq ?_ | refine RunsE.skip ?_ | refine RunsE.block ?_ | refine RunsE.inBlock ?_ | refine RunsE.yes rfl ?_ | refine RunsE.no rfl ?_ | refine RunsE.exit rfl ?_)
    refine RunsE.region ?_
    refine OpsE.ev (Ev.move rfl) rfl ?_
    refine OpsE.ev (Ev.iaArr (n := 10) (sz := 16) rfl rfl rfl (by kernel_rfl) (by omega)) rfl ?_
    refine OpsE.ev (Ev.loadAgg (vs := sgRow r) H rfl (by kernel_rfl) (fun i v hi => ((hG.row h10 i v hi).tail).tail.tail)) rfl ?_
    refine OpsE.ex (Ex.alloc (zv := .agg (List.replicate 16 (.int .u8 0)).toArray) H (by kernel_rfl)) rfl ?_; (try clear H); rintro _ w ⟨b13, rfl, H⟩; simp only [Value.cells] at H
    refine OpsE.exn (Ex.storeBlk (n := 16) (vs := sgRow r) H rfl rfl (by kernel_rfl) (by simp [sgRow]) (sgRow_one r) u0 (by simp [sgRow]) (Thaw.zero _ _)) ?_; (try clear H); intro _ w H
    refine OpsE.nil ?_
    repeat (first | refine RunsE.seq ?_ | refine RunsE.skip ?_ | refine RunsE.block ?_ | refine RunsE.inBlock ?_ | refine RunsE.yes rfl ?_ | refine RunsE.no rfl ?_ | refine RunsE.exit rfl ?_)
    refine RunsE.region ?_
    refine OpsE.ev (Ev.move rfl) rfl ?_
    refine OpsE.nil ?_
    repeat (first | refine RunsE.seq ?_ | refine RunsE.skip ?_ | refine RunsE.block ?_ | refine RunsE.inBlock ?_ | refine RunsE.yes rfl ?_ | refine RunsE.no rfl ?_ | refine RunsE.exit rfl ?_)
    refine RunsE.loop (fun i : Nat => [(0, .pointer (some ⟨g, 0, none⟩)), (8, .pointer (some ⟨b8, 0, none⟩)), (9, .pointer (some ⟨b9, 0, none⟩)), (13, .pointer (some ⟨b13, 0, none⟩)), (79, .int .i64 (r : Int)), (85, .int .i64 (i : Int))])
      (fun i w => i ≤ 4 ∧ SL w ((b13, .cells (sgRow r).toArray 81 (0, 0)) :: (b9, .cells ((steps (words bs) r vr i).map U).toArray 80 (0, 0)) :: (b8, .cells ((words bs).map U).toArray 80 (0, 0)) :: (g, .cells (hs.map U ++ sp).toArray T (0, 0)) :: F))
      (fun i => 4 - i) 0 ⟨rfl, rfl, rfl, rfl, rfl, rfl, trivial⟩ ⟨by omega, H⟩ ?_
    clear H
    rintro i w ⟨hi, H⟩ next
    by_cases h4 : i < 4
    · have hs1 := sg_lt r (2 * i)
      have hs2 := sg_lt r (2 * i + 1)
      repeat (first | refine RunsE.seq ?_ | refine RunsE.skip ?_ | refine RunsE.block ?_ | refine RunsE.inBlock ?_ | refine RunsE.yes rfl ?_ | refine RunsE.no rfl ?_ | refine RunsE.exit rfl ?_)
      refine RunsE.region ?_
      refine OpsE.ev (Ev.lss rfl rfl) rfl ?_
      refine OpsE.nil ?_
      repeat (first | refine RunsE.seq ?_ | refine RunsE.skip ?_ | refine RunsE.block ?_ | refine RunsE.inBlock ?_ | refine RunsE.yes rfl ?_ | refine RunsE.no rfl ?_ | refine RunsE.exit rfl ?_)
      refine RunsE.region ?_
      refine OpsE.ev (Ev.move rfl) rfl ?_
      refine OpsE.ev (Ev.assign rfl) rfl ?_
      refine OpsE.nil ?_
      repeat (first | refine RunsE.seq ?_ | refine RunsE.skip ?_ | refine RunsE.block ?_ | refine RunsE.inBlock ?_ | refine RunsE.yes rfl ?_ | refine RunsE.no rfl ?_ | refine RunsE.exit rfl ?_)
      refine RunsE.drawS H [20] (by kernel_rfl) ?_; (try clear H); intro w H
      refine OpsD.take 0 rfl (by kernel_rfl) H (fun w H => Ev.move rfl) rfl ?_
      refine OpsD.take 1 rfl (by kernel_rfl) H (fun w H => Ev.move rfl) rfl ?_
      refine OpsD.take 2 rfl (by kernel_rfl) H (fun w H => Ev.add rfl rfl) rfl ?_
      refine OpsD.take 3 rfl (by kernel_rfl) H (fun w H => Ev.move rfl) rfl ?_
      refine OpsD.take 4 rfl (by kernel_rfl) H (fun w H => Ev.add rfl rfl) rfl ?_
      refine OpsD.take 5 rfl (by kernel_rfl) H (fun w H => Ev.move rfl) rfl ?_
      refine OpsD.take 6 rfl (by kernel_rfl) H (fun w H => Ev.add rfl rfl) rfl ?_
      refine OpsD.take 7 rfl (by kernel_rfl) H (fun w H => Ev.move rfl) rfl ?_
      refine OpsD.take 8 rfl (by kernel_rfl) H (fun w H => Ev.mul rfl rfl) rfl ?_
      refine OpsD.take 9 rfl (by kernel_rfl) H (fun w H => Ev.iaArr (n := 16) (sz := 1) (m := 2 * i) rfl rfl (by omega) (by kernel_rfl) (by omega)) rfl ?_
      refine OpsD.take 10 rfl (by kernel_rfl) H (fun w H => Ev.load H rfl (by kernel_rfl) (Rd.mk m0 (sgRow_get (by omega)))) rfl ?_
      refine OpsD.take 11 rfl (by kernel_rfl) H (fun w H => Ev.iaArr (n := 16) (sz := 1) rfl rfl rfl (by kernel_rfl) (by omega)) rfl ?_
      refine OpsD.take 12 rfl (by kernel_rfl) H (fun w H => Ev.load H rfl (by kernel_rfl) (rdU m2 (by simp only [words_length]; omega))) rfl ?_
      refine OpsD.take 13 rfl (by kernel_rfl) H (fun w H => Ev.move rfl) rfl ?_
      refine OpsD.take 14 rfl (by kernel_rfl) H (fun w H => Ev.mul rfl rfl) rfl ?_
      refine OpsD.take 15 rfl (by kernel_rfl) H (fun w H => Ev.add rfl rfl) rfl ?_
      refine OpsD.take 16 rfl (by kernel_rfl) H (fun w H => Ev.iaArr (n := 16) (sz := 1) (m := 2 * i + 1) rfl rfl (by omega) (by kernel_rfl) (by omega)) rfl ?_
      refine OpsD.take 17 rfl (by kernel_rfl) H (fun w H => Ev.load H rfl (by kernel_rfl) (Rd.mk m0 (sgRow_get (by omega)))) rfl ?_
      refine OpsD.take 18 rfl (by kernel_rfl) H (fun w H => Ev.iaArr (n := 16) (sz := 1) rfl rfl rfl (by kernel_rfl) (by omega)) rfl ?_
      refine OpsD.take 19 rfl (by kernel_rfl) H (fun w H => Ev.load H rfl (by kernel_rfl) (rdU m2 (by simp only [words_length]; omega))) rfl ?_
      refine OpsD.one 20 (by kernel_rfl) (StepD.exT rfl rfl (Ex.call rfl Tryd.call31 (mix_spec _ i (4 + i) (8 + i) (12 + i) _ _ b9 80 (by simp [hlr]) (by omega) (by omega) (by omega) (by omega) w _ H.f1)) rfl ?_); (try clear H); rintro _ w ⟨rfl, H⟩
      refine OpsD.done (by kernel_rfl) ?_
      rw [step_lo _ _ _ h4] at H
      replace H := H.f1
      repeat (first | refine RunsE.seq ?_ | refine RunsE.skip ?_ | refine RunsE.block ?_ | refine RunsE.inBlock ?_ | refine RunsE.yes rfl ?_ | refine RunsE.no rfl ?_ | refine RunsE.exit rfl ?_)
      refine RunsE.region ?_
      refine OpsE.ev (Ev.add rfl rfl) rfl ?_
      refine OpsE.ev (Ev.move rfl) rfl ?_
      refine OpsE.nil ?_
      repeat (first | refine RunsE.seq ?_ | refine RunsE.skip ?_ | refine RunsE.block ?_ | refine RunsE.inBlock ?_ | refine RunsE.yes rfl ?_ | refine RunsE.no rfl ?_ | refine RunsE.exit rfl ?_)
      exact next (i + 1) _ _ (by omega) ⟨by omega, H⟩ ⟨rfl, rfl, rfl, rfl, rfl, rfl, trivial⟩
    clear next
    obtain rfl : i = 4 := by omega
    repeat (first | refine RunsE.seq ?_ | refine RunsE.skip ?_ | refine RunsE.block ?_ | refine RunsE.inBlock ?_ | refine RunsE.yes rfl ?_ | refine RunsE.no rfl ?_ | refine RunsE.exit rfl ?_)
    refine RunsE.region ?_
    refine OpsE.ev (Ev.lss rfl rfl) rfl ?_
    refine OpsE.nil ?_
    repeat (first | refine RunsE.seq ?_ | refine RunsE.skip ?_ | refine RunsE.block ?_ | refine RunsE.inBlock ?_ | refine RunsE.yes rfl ?_ | refine RunsE.no rfl ?_ | refine RunsE.exit rfl ?_)
    refine RunsE.region ?_
    refine OpsE.ev (Ev.move rfl) rfl ?_
    refine OpsE.nil ?_
    repeat (first | refine RunsE.seq ?_ | refine RunsE.skip ?_ | refine RunsE.block ?_ | refine RunsE.inBlock ?_ | refine RunsE.yes rfl ?_ | refine RunsE.no rfl ?_ | refine RunsE.exit rfl ?_)
    refine RunsE.loop (fun i : Nat => [(0, .pointer (some ⟨g, 0, none⟩)), (8, .pointer (some ⟨b8, 0, none⟩)), (9, .pointer (some ⟨b9, 0, none⟩)), (13, .pointer (some ⟨b13, 0, none⟩)), (79, .int .i64 (r : Int)), (110, .int .i64 (i : Int))])
      (fun i w => i ≤ 4 ∧ SL w ((b13, .cells (sgRow r).toArray 81 (0, 0)) :: (b9, .cells ((steps (words bs) r vr (4 + i)).map U).toArray 80 (0, 0)) :: (b8, .cells ((words bs).map U).toArray 80 (0, 0)) :: (g, .cells (hs.map U ++ sp).toArray T (0, 0)) :: F))
      (fun i => 4 - i) 0 ⟨rfl, rfl, rfl, rfl, rfl, rfl, trivial⟩ ⟨by omega, H⟩ ?_
    clear H
    rintro i w ⟨hi, H⟩ next
    by_cases h4 : i < 4
    · have hs1 := sg_lt r (8 + 2 * i)
      have hs2 := sg_lt r (9 + 2 * i)
      repeat (first | refine RunsE.seq ?_ | refine RunsE.skip ?_ | refine RunsE.block ?_ | refine RunsE.inBlock ?_ | refine RunsE.yes rfl ?_ | refine RunsE.no rfl ?_ | refine RunsE.exit rfl ?_)
      refine RunsE.region ?_
      refine OpsE.ev (Ev.lss rfl rfl) rfl ?_
      refine OpsE.nil ?_
      repeat (first | refine RunsE.seq ?_ | refine RunsE.skip ?_ | refine RunsE.block ?_ | refine RunsE.inBlock ?_ | refine RunsE.yes rfl ?_ | refine RunsE.no rfl ?_ | refine RunsE.exit rfl ?_)
      refine RunsE.region ?_
      refine OpsE.ev (Ev.move rfl) rfl ?_
      refine OpsE.ev (Ev.assign rfl) rfl ?_
      refine OpsE.nil ?_
      repeat (first | refine RunsE.seq ?_ | refine RunsE.skip ?_ | refine RunsE.block ?_ | refine RunsE.inBlock ?_ | refine RunsE.yes rfl ?_ | refine RunsE.no rfl ?_ | refine RunsE.exit rfl ?_)
      refine RunsE.drawS H [27] (by kernel_rfl) ?_; (try clear H); intro w H
      refine OpsD.take 0 rfl (by kernel_rfl) H (fun w H => Ev.move rfl) rfl ?_
      refine OpsD.take 1 rfl (by kernel_rfl) H (fun w H => Ev.move rfl) rfl ?_
      refine OpsD.take 2 rfl (by kernel_rfl) H (fun w H => Ev.add rfl rfl) rfl ?_
      refine OpsD.take 3 rfl (by kernel_rfl) H (fun w H => Ev.rem rfl rfl (by omega) (qrem (i + 1) 4)) rfl ?_
      refine OpsD.take 4 rfl (by kernel_rfl) H (fun w H => Ev.add rfl rfl) rfl ?_
      refine OpsD.take 5 rfl (by kernel_rfl) H (fun w H => Ev.move rfl) rfl ?_
      refine OpsD.take 6 rfl (by kernel_rfl) H (fun w H => Ev.add rfl rfl) rfl ?_
      refine OpsD.take 7 rfl (by kernel_rfl) H (fun w H => Ev.rem rfl rfl (by omega) (qrem (i + 2) 4)) rfl ?_
      refine OpsD.take 8 rfl (by kernel_rfl) H (fun w H => Ev.add rfl rfl) rfl ?_
      refine OpsD.take 9 rfl (by kernel_rfl) H (fun w H => Ev.move rfl) rfl ?_
      refine OpsD.take 10 rfl (by kernel_rfl) H (fun w H => Ev.add rfl rfl) rfl ?_
      refine OpsD.take 11 rfl (by kernel_rfl) H (fun w H => Ev.rem rfl rfl (by omega) (qrem (i + 3) 4)) rfl ?_
      refine OpsD.take 12 rfl (by kernel_rfl) H (fun w H => Ev.add rfl rfl) rfl ?_
      refine OpsD.take 13 rfl (by kernel_rfl) H (fun w H => Ev.move rfl) rfl ?_
      refine OpsD.take 14 rfl (by kernel_rfl) H (fun w H => Ev.mul rfl rfl) rfl ?_
      refine OpsD.take 15 rfl (by kernel_rfl) H (fun w H => Ev.add rfl rfl) rfl ?_
      refine OpsD.take 16 rfl (by kernel_rfl) H (fun w H => Ev.iaArr (n := 16) (sz := 1) (m := 8 + 2 * i) rfl rfl (by omega) (by kernel_rfl) (by omega)) rfl ?_
      refine OpsD.take 17 rfl (by kernel_rfl) H (fun w H => Ev.load H rfl (by kernel_rfl) (Rd.mk m0 (sgRow_get (by omega)))) rfl ?_
      refine OpsD.take 18 rfl (by kernel_rfl) H (fun w H => Ev.iaArr (n := 16) (sz := 1) rfl rfl rfl (by kernel_rfl) (by omega)) rfl ?_
      refine OpsD.take 19 rfl (by kernel_rfl) H (fun w H => Ev.load H rfl (by kernel_rfl) (rdU m2 (by simp only [words_length]; omega))) rfl ?_
      refine OpsD.take 20 rfl (by kernel_rfl) H (fun w H => Ev.move rfl) rfl ?_
      refine OpsD.take 21 rfl (by kernel_rfl) H (fun w H => Ev.mul rfl rfl) rfl ?_
      refine OpsD.take 22 rfl (by kernel_rfl) H (fun w H => Ev.add rfl rfl) rfl ?_
      refine OpsD.take 23 rfl (by kernel_rfl) H (fun w H => Ev.iaArr (n := 16) (sz := 1) (m := 9 + 2 * i) rfl rfl (by omega) (by kernel_rfl) (by omega)) rfl ?_
      refine OpsD.take 24 rfl (by kernel_rfl) H (fun w H => Ev.load H rfl (by kernel_rfl) (Rd.mk m0 (sgRow_get (by omega)))) rfl ?_
      refine OpsD.take 25 rfl (by kernel_rfl) H (fun w H => Ev.iaArr (n := 16) (sz := 1) rfl rfl rfl (by kernel_rfl) (by omega)) rfl ?_
      refine OpsD.take 26 rfl (by kernel_rfl) H (fun w H => Ev.load H rfl (by kernel_rfl) (rdU m2 (by simp only [words_length]; omega))) rfl ?_
      refine OpsD.one 27 (by kernel_rfl) (StepD.exT rfl rfl (Ex.call rfl Tryd.call31 (mix_spec _ i (4 + (i + 1) % 4) (8 + (i + 2) % 4) (12 + (i + 3) % 4) _ _ b9 80 (by simp [hlr]) (by omega) (by omega) (by omega) (by omega) w _ H.f1)) rfl ?_); (try clear H); rintro _ w ⟨rfl, H⟩
      refine OpsD.done (by kernel_rfl) ?_
      rw [step_hi _ _ _ h4] at H
      replace H := H.f1
      repeat (first | refine RunsE.seq ?_ | refine RunsE.skip ?_ | refine RunsE.block ?_ | refine RunsE.inBlock ?_ | refine RunsE.yes rfl ?_ | refine RunsE.no rfl ?_ | refine RunsE.exit rfl ?_)
      refine RunsE.region ?_
      refine OpsE.ev (Ev.add rfl rfl) rfl ?_
      refine OpsE.ev (Ev.move rfl) rfl ?_
      refine OpsE.nil ?_
      repeat (first | refine RunsE.seq ?_ | refine RunsE.skip ?_ | refine RunsE.block ?_ | refine RunsE.inBlock ?_ | refine RunsE.yes rfl ?_ | refine RunsE.no rfl ?_ | refine RunsE.exit rfl ?_)
      exact next (i + 1) _ _ (by omega) ⟨by omega, H⟩ ⟨rfl, rfl, rfl, rfl, rfl, rfl, trivial⟩
    clear next
    obtain rfl : i = 4 := by omega
    repeat (first | refine RunsE.seq ?_ | refine RunsE.skip ?_ | refine RunsE.block ?_ | refine RunsE.inBlock ?_ | refine RunsE.yes rfl ?_ | refine RunsE.no rfl ?_ | refine RunsE.exit rfl ?_)
    refine RunsE.region ?_
    refine OpsE.ev (Ev.lss rfl rfl) rfl ?_
    refine OpsE.nil ?_
    repeat (first | refine RunsE.seq ?_ | refine RunsE.skip ?_ | refine RunsE.block ?_ | refine RunsE.inBlock ?_ | refine RunsE.yes rfl ?_ | refine RunsE.no rfl ?_ | refine RunsE.exit rfl ?_)
    refine RunsE.region ?_
    refine OpsE.ev (Ev.add rfl rfl) rfl ?_
    refine OpsE.ev (Ev.move rfl) rfl ?_
    refine OpsE.nil ?_
    repeat (first | refine RunsE.seq ?_ | refine RunsE.skip ?_ | refine RunsE.block ?_ | refine RunsE.inBlock ?_ | refine RunsE.yes rfl ?_ | refine RunsE.no rfl ?_ | refine RunsE.exit rfl ?_)
    refine nextR (r + 1) _ _ (by omega) ⟨by omega, ?_⟩ ⟨rfl, rfl, rfl, rfl, trivial⟩
    rw [rnds_succ, ← hvr]
    exact H.drop
  clear nextR
  obtain rfl : r = 10 := by omega
  obtain ⟨v, hv⟩ : ∃ v, v = rnds (words bs) v0 10 := ⟨_, rfl⟩
  have hlv : v.length = 16 := by rw [hv, rnds_length]; exact hls
  rw [← hv] at H
  have hc : compress hs bs t last = (List.range 8).map fun i => hs.getD i 0 ^^^ (v.getD i 0 ^^^ v.getD (8 + i) 0) := by
    rw [compress, ← hv0', ← hv]
  repeat (first | refine RunsE.seq ?_ | refine RunsE.skip ?_ | refine RunsE.block ?_ | refine RunsE.inBlock ?_ | refine RunsE.yes rfl ?_ | refine RunsE.no rfl ?_ | refine RunsE.exit rfl ?_)
  refine RunsE.region ?_
  refine OpsE.ev (Ev.lss rfl rfl) rfl ?_
  refine OpsE.nil ?_
  repeat (first | refine RunsE.seq ?_ | refine RunsE.skip ?_ | refine RunsE.block ?_ | refine RunsE.inBlock ?_ | refine RunsE.yes rfl ?_ | refine RunsE.no rfl ?_ | refine RunsE.exit rfl ?_)
  refine RunsE.region ?_
  refine OpsE.ev (Ev.move rfl) rfl ?_
  refine OpsE.nil ?_
  repeat (first | refine RunsE.seq ?_ | refine RunsE.skip ?_ | refine RunsE.block ?_ | refine RunsE.inBlock ?_ | refine RunsE.yes rfl ?_ | refine RunsE.no rfl ?_ | refine RunsE.exit rfl ?_)
  refine RunsE.loop (fun i : Nat => [(0, .pointer (some ⟨g, 0, none⟩)), (9, .pointer (some ⟨b9, 0, none⟩)), (143, .int .i64 (i : Int))])
    (fun i w => i ≤ 8 ∧ SL w ((b9, .cells (v.map U).toArray 80 (0, 0)) :: (g, .cells ((prt 8 (fun i => hs.getD i 0 ^^^ (v.getD i 0 ^^^ v.getD (8 + i) 0)) (fun i => hs.getD i 0) i).map U ++ sp).toArray T (0, 0)) :: F))
    (fun i => 8 - i) 0 ⟨rfl, rfl, rfl, trivial⟩ ⟨by omega, by rw [prt_zero, list_range hl]; exact H.drop1⟩ ?_
  clear H
  rintro i w ⟨hi, H⟩ next
  by_cases h8 : i < 8
  · have hgi : (prt 8 (fun i => hs.getD i 0 ^^^ (v.getD i 0 ^^^ v.getD (8 + i) 0)) (fun i => hs.getD i 0) i).getD i 0 = hs.getD i 0 := by rw [prt_get h8, if_neg (by omega)]
    repeat (first | refine RunsE.seq ?_ | refine RunsE.skip ?_ | refine RunsE.block ?_ | refine RunsE.inBlock ?_ | refine RunsE.yes rfl ?_ | refine RunsE.no rfl ?_ | refine RunsE.exit rfl ?_)
    refine RunsE.region ?_
    refine OpsE.ev (Ev.lss rfl rfl) rfl ?_
    refine OpsE.nil ?_
    repeat (first | refine RunsE.seq ?_ | refine RunsE.skip ?_ | refine RunsE.block ?_ | refine RunsE.inBlock ?_ | refine RunsE.yes rfl ?_ | refine RunsE.no rfl ?_ | refine RunsE.exit rfl ?_)
    refine RunsE.region ?_
    refine OpsE.ev (Ev.move rfl) rfl ?_
    refine OpsE.ev (Ev.assign rfl) rfl ?_
    refine OpsE.nil ?_
    repeat (first | refine RunsE.seq ?_ | refine RunsE.skip ?_ | refine RunsE.block ?_ | refine RunsE.inBlock ?_ | refine RunsE.yes rfl ?_ | refine RunsE.no rfl ?_ | refine RunsE.exit rfl ?_)
    refine RunsE.drawS H [16] (by kernel_rfl) ?_; (try clear H); intro w H
    refine OpsD.take 0 rfl (by kernel_rfl) H (fun w H => Ev.move rfl) rfl ?_
    refine OpsD.take 1 rfl (by kernel_rfl) H (fun w H => Ev.move rfl) rfl ?_
    refine OpsD.take 2 rfl (by kernel_rfl) H (fun w H => Ev.nilCheck rfl) rfl ?_
    refine OpsD.take 3 rfl (by kernel_rfl) H (fun w H => Ev.iaArr (n := 8) (sz := 1) rfl rfl rfl (by kernel_rfl) (by omega)) rfl ?_
    refine OpsD.take 4 rfl (by kernel_rfl) H (fun w H => Ev.load (v := U (hs.getD i 0)) H rfl (by kernel_rfl) (by rw [← hgi]; exact rdUs m1 (by simpa using h8))) rfl ?_
    refine OpsD.take 5 rfl (by kernel_rfl) H (fun w H => Ev.move rfl) rfl ?_
    refine OpsD.take 6 rfl (by kernel_rfl) H (fun w H => Ev.iaArr (n := 16) (sz := 1) rfl rfl rfl (by kernel_rfl) (by omega)) rfl ?_
    refine OpsD.take 7 rfl (by kernel_rfl) H (fun w H => Ev.load H rfl (by kernel_rfl) (rdU m0 (by omega))) rfl ?_
    refine OpsD.take 8 rfl (by kernel_rfl) H (fun w H => Ev.move rfl) rfl ?_
    refine OpsD.take 9 rfl (by kernel_rfl) H (fun w H => Ev.add rfl rfl) rfl ?_
    refine OpsD.take 10 rfl (by kernel_rfl) H (fun w H => Ev.iaArr (n := 16) (sz := 1) (m := 8 + i) rfl rfl (by omega) (by kernel_rfl) (by omega)) rfl ?_
    refine OpsD.take 11 rfl (by kernel_rfl) H (fun w H => Ev.load H rfl (by kernel_rfl) (rdU m0 (by omega))) rfl ?_
    refine OpsD.take 12 rfl (by kernel_rfl) H (fun w H => Ev.xor rfl rfl) rfl ?_
    refine OpsD.take 13 rfl (by kernel_rfl) H (fun w H => Ev.xor rfl rfl) rfl ?_
    refine OpsD.take 14 rfl (by kernel_rfl) H (fun w H => Ev.nilCheck rfl) rfl ?_
    refine OpsD.take 15 rfl (by kernel_rfl) H (fun w H => Ev.iaArr (n := 8) (sz := 1) rfl rfl rfl (by kernel_rfl) (by omega)) rfl ?_
    refine OpsD.one 16 (by kernel_rfl) (StepD.exnT rfl rfl (Ex.store1 H rfl rfl (by kernel_rfl) rfl u1 (by simp; omega) (Thaw.zero _ _) (setUs (by simpa using h8))) ?_); (try clear H); intro _ w H
    refine OpsD.done (by kernel_rfl) ?_
    have e1 := prt_set (n := 8) (f := fun i => hs.getD i 0 ^^^ (v.getD i 0 ^^^ v.getD (8 + i) 0)) (g := fun i => hs.getD i 0) (i := i)
    rw [e1] at H
    repeat (first | refine RunsE.seq ?_ | refine RunsE.skip ?_ | refine RunsE.block ?_ | refine RunsE.inBlock ?_ | refine RunsE.yes rfl ?_ | refine RunsE.no rfl ?_ | refine RunsE.exit rfl ?_)
    refine RunsE.region ?_
    refine OpsE.ev (Ev.add rfl rfl) rfl ?_
    refine OpsE.ev (Ev.move rfl) rfl ?_
    refine OpsE.nil ?_
    repeat (first | refine RunsE.seq ?_ | refine RunsE.skip ?_ | refine RunsE.block ?_ | refine RunsE.inBlock ?_ | refine RunsE.yes rfl ?_ | refine RunsE.no rfl ?_ | refine RunsE.exit rfl ?_)
    exact next (i + 1) _ _ (by omega) ⟨by omega, H⟩ ⟨rfl, rfl, rfl, trivial⟩
  clear next
  obtain rfl : i = 8 := by omega
  rw [prt_all, ← hc] at H
  repeat (first | refine RunsE.seq ?_ | refine RunsE.skip ?_ | refine RunsE.block ?_ | refine RunsE.inBlock ?_ | refine RunsE.yes rfl ?_ | refine RunsE.no rfl ?_ | refine RunsE.exit rfl ?_)
  refine RunsE.region ?_
  refine OpsE.ev (Ev.lss rfl rfl) rfl ?_
  refine OpsE.nil ?_
  repeat (first | refine RunsE.seq ?_ | refine RunsE.skip ?_ | refine RunsE.block ?_ | refine RunsE.inBlock ?_ | refine RunsE.yes rfl ?_ | refine RunsE.no rfl ?_ | refine RunsE.exit rfl ?_)
  exact RunsE.end0 Tryd.func23 rfl ⟨rfl, H.drop⟩

end Go.Proofs.YtfohpgbeongjfaaDoor
