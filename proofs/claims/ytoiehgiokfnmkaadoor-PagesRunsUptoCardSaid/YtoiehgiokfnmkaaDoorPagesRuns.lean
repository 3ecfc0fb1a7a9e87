/-
  The statement 'PagesRuns': its function, walked.
-/
import Derived.Test.YtoiehgiokfnmkaaDoorPagesRef4
import Derived.Test.YtoiehgiokfnmkaaDoorPagesD
import Derived.Test.YtoiehgiokfnmkaaDoorNumS
namespace Go.Proofs.YtoiehgiokfnmkaaDoor.V

theorem SL.fin5 [Strm] {w : World} {A B D F : List (Nat × Obj)} {y c : Nat × Obj} (h : SL w (B ++ (A ++ (y :: c :: (D ++ F))))) : SL w (A ++ (c :: ((B ++ D) ++ F))) := by
  have h1 : SL w (B ++ (A ++ (c :: (D ++ F)))) := h.sublist (((List.sublist_cons_self y _).append_left A).append_left B)
  refine h1.perm ?_
  rw [List.append_assoc]
  exact (List.perm_middle.symm.append_left A).trans (perm_in A B _)

theorem ActAt.cells {L : List (Nat × Obj)} {b off : Nat} {x : ActV} (h : ActAt L b off x) : ∃ ad cd ak ck, Inp L (.slice ad x.data.length cd) x.data ∧ IntsIn .i64 L (.slice ak x.keep.length ck) x.keep ∧
    ∀ (j : Nat) v, [Value.int .i64 x.kind, .int .i64 x.page, .int .i64 x.n, .slice ad x.data.length cd, .slice ak x.keep.length ck][j]? = some v → Rd L ⟨b, off + j, none⟩ v := by
  obtain ⟨vd, d1, d2⟩ := h.data
  obtain ⟨vk, k1, k2⟩ := h.keep
  obtain ⟨ad, cd, rfl, _⟩ := d2.len
  obtain ⟨ak, ck, rfl, _⟩ := k2.len
  refine ⟨ad, cd, ak, ck, d2, k2, fun j v hj => ?_⟩
  match j, hj with
  | 0, h' => cases h'; exact h.kind
  | 1, h' => cases h'; exact h.page
  | 2, h' => cases h'; exact h.n
  | 3, h' => cases h'; exact d1
  | 4, h' => cases h'; exact k1
  | j + 5, h' => simp at h'

end Go.Proofs.YtoiehgiokfnmkaaDoor.V
namespace Go.Proofs.YtoiehgiokfnmkaaDoor
open Go.Proofs.YtoiehgiokfnmkaaDoor.V

theorem num_ev [Strm] (e : Nat) (w : World) (F : List (Nat × Obj)) (hE : ErrIn F) (H : SL w F) : Does Tryd.prog 7 #[EV e] w fun r w' => r = .int .i64 (e : Int) ∧ SL w' F := by
  cases e with
  | zero => exact num_nil w F H
  | succ n => exact num_spec _ w F hE H

/-- What the two stores share. -/
structure Pair [Strm] (F : List (Nat × Obj)) (b b10 n k : Nat) (w : World) : Prop where
  of :: ex : ∃ s x A D, HoldS b s A ∧ RefIn (D ++ F) s x ∧ s.P.length = n ∧ s.Q.length ≤ k ∧ SL w (A ++ ((b10, .cells (refV s x).toArray 41 (0, 0)) :: (D ++ F)))

theorem start_P (s : St) (kept : Nat → Bool) : (s.start kept).P.length = s.P.length := by simp only [St.start, St.settle, setl_len]
theorem write_P (s : St) (page : Int) (bs : List UInt8) : (s.write page bs).1.P = s.P ∧ (s.write page bs).1.Q.length ≤ s.Q.length + 1 := by
  unfold St.write
  split
  · exact ⟨rfl, Nat.le_succ _⟩
  split
  · exact ⟨rfl, Nat.le_succ _⟩
  split
  · exact ⟨rfl, Nat.le_succ _⟩
  · rw [step_P, step_Q]
    exact ⟨rfl, by simp [St.push]⟩
theorem sync_P (s : St) : s.sync.1.P.length = s.P.length ∧ s.sync.1.Q.length ≤ s.Q.length := by
  unfold St.sync
  split
  · exact ⟨rfl, Nat.le_refl _⟩
  split
  · simp only [St.settle, setl_len, step_P]
    exact ⟨trivial, Nat.zero_le _⟩
  · rw [step_P, step_Q]
    exact ⟨rfl, Nat.le_refl _⟩

set_option maxHeartbeats 4000000 in
theorem runslaw_spec [Strm] (many : Int) (l : List ActV) (vl : Value) (hkeep : ∀ x ∈ l, x.keep.length ≤ 1000000000) (w : World) (F : List (Nat × Obj)) (hvl : ElsA 5 (ActAt F) vl l) (hE : ErrIn F) (H : SL w F) :
    Does Tryd.prog 3 #[.int .i64 many, vl] w fun r w' => r = .bool true ∧ SL w' F := by
  obtain ⟨al, cl, rfl, hcl⟩ := hvl.len
  have hE1 : EV 1 = .iface 59 (.int .i64 1) := rfl
  refine Does.intro (args := [_, _]) (e := [(0, _), (1, _)]) Tryd.func3 rfl Tryd.ntmps3 rfl rfl ?_
  repeat (first | refine RunsE.seq ?_ | refine RunsE.skip ?_ | refine RunsE.block ?_ | refine RunsE.inBlock ?_ | refine RunsE.yes rfl ?_ | refine RunsE.no rfl ?_ | refine RunsE.exit rfl ?_)
  repeat (first | refine RunsE.seq ?_ | refine RunsE.skip ?_ | refine RunsE.block ?_ | refine RunsE.inBlock ?_ | refine RunsE.yes rfl ?_ | refine RunsE.no rfl ?_ | refine RunsE.exit rfl ?_)
  refine RunsE.region ?_
  refine OpsE.ev (Ev.assign rfl) rfl ?_
  refine OpsE.nil ?_
  repeat (first | refine RunsE.seq ?_ | refine RunsE.skip ?_ | refine RunsE.block ?_ | refine RunsE.inBlock ?_ | refine RunsE.yes rfl ?_ | refine RunsE.no rfl ?_ | refine RunsE.exit rfl ?_)
  refine RunsE.region ?_
  refine OpsE.ev (Ev.assign rfl) rfl ?_
  refine OpsE.nil ?_
  repeat (first | refine RunsE.seq ?_ | refine RunsE.skip ?_ | refine RunsE.block ?_ | refine RunsE.inBlock ?_ | refine RunsE.yes rfl ?_ | refine RunsE.no rfl ?_ | refine RunsE.exit rfl ?_)
  refine RunsE.region ?_
  refine OpsE.ev (Ev.move rfl) rfl ?_
  refine OpsE.ex (Ex.call rfl Tryd.call5 (nread_spec 0 w _ H)) rfl ?_; (try clear H); rintro _ w ⟨rfl, H⟩
  refine OpsE.ev (Ev.move rfl) rfl ?_
  refine OpsE.ev (Ev.extract rfl rfl) rfl ?_
  refine OpsE.ev (Ev.extract rfl rfl) rfl ?_
  refine OpsE.ev (Ev.assign rfl) rfl ?_
  refine OpsE.ev (Ev.assign rfl) rfl ?_
  refine OpsE.nil ?_
  repeat (first | refine RunsE.seq ?_ | refine RunsE.skip ?_ | refine RunsE.block ?_ | refine RunsE.inBlock ?_ | refine RunsE.yes rfl ?_ | refine RunsE.no rfl ?_ | refine RunsE.exit rfl ?_)
  refine RunsE.region ?_
  refine OpsE.ev (Ev.move rfl) rfl ?_
  refine OpsE.ex (Ex.call rfl Tryd.call6 (nstart_spec _ w _ H ⟨_, _, _, rfl⟩)) rfl ?_; (try clear H); rintro _ w ⟨rfl, H⟩
  refine OpsE.nil ?_
  repeat (first | refine RunsE.seq ?_ | refine RunsE.skip ?_ | refine RunsE.block ?_ | refine RunsE.inBlock ?_ | refine RunsE.yes rfl ?_ | refine RunsE.no rfl ?_ | refine RunsE.exit rfl ?_)
  refine RunsE.region ?_
  refine OpsE.ev (Ev.move rfl) rfl ?_
  refine OpsE.ex (Ex.call rfl Tryd.call7 (num_ev 1 w _ hE H)) rfl ?_; (try clear H); rintro _ w ⟨rfl, H⟩
  refine OpsE.ev (Ev.neq (r := false) rfl rfl rfl) rfl ?_
  refine OpsE.ev (Ev.move rfl) rfl ?_
  first | (refine OpsE.yes rfl rfl ?_; refine OpsE.ev (Ev.move rfl) rfl ?_) | refine OpsE.no rfl rfl rfl ?_ | refine OpsE.off rfl rfl rfl ?_
  first | (refine OpsE.yes rfl rfl ?_; refine OpsE.ex (Ex.call rfl Tryd.call8 (nwrite_spec 0 _ w _ H)) rfl ?_; (try clear H); rintro _ w ⟨rfl, H⟩) | refine OpsE.no rfl rfl rfl ?_ | refine OpsE.off rfl rfl rfl ?_
  first | (refine OpsE.yes rfl rfl ?_; refine OpsE.ex (Ex.call rfl Tryd.call7 (num_ev 1 w _ hE H)) rfl ?_; (try clear H); rintro _ w ⟨rfl, H⟩) | refine OpsE.no rfl rfl rfl ?_ | refine OpsE.off rfl rfl rfl ?_
  first | (refine OpsE.yes rfl rfl ?_; refine OpsE.ev (Ev.neq (r := false) rfl rfl rfl) rfl ?_) | refine OpsE.no rfl rfl rfl ?_ | refine OpsE.off rfl rfl rfl ?_
  refine OpsE.ev ((by first | exact Ev.pickT rfl rfl | exact Ev.pickF rfl rfl)) rfl ?_
  refine OpsE.ev (Ev.move rfl) rfl ?_
  first | (refine OpsE.yes rfl rfl ?_; refine OpsE.ev (Ev.move rfl) rfl ?_) | refine OpsE.no rfl rfl rfl ?_ | refine OpsE.off rfl rfl rfl ?_
  first | (refine OpsE.yes rfl rfl ?_; refine OpsE.ex (Ex.call rfl Tryd.call9 (nsync_spec w _ H)) rfl ?_; (try clear H); rintro _ w ⟨rfl, H⟩) | refine OpsE.no rfl rfl rfl ?_ | refine OpsE.off rfl rfl rfl ?_
  first | (refine OpsE.yes rfl rfl ?_; refine OpsE.ex (Ex.call rfl Tryd.call7 (num_ev 1 w _ hE H)) rfl ?_; (try clear H); rintro _ w ⟨rfl, H⟩) | refine OpsE.no rfl rfl rfl ?_ | refine OpsE.off rfl rfl rfl ?_
  first | (refine OpsE.yes rfl rfl ?_; refine OpsE.ev (Ev.neq (r := false) rfl rfl rfl) rfl ?_) | refine OpsE.no rfl rfl rfl ?_ | refine OpsE.off rfl rfl rfl ?_
  refine OpsE.ev ((by first | exact Ev.pickT rfl rfl | exact Ev.pickF rfl rfl)) rfl ?_
  refine OpsE.ev (Ev.move rfl) rfl ?_
  first | (refine OpsE.yes rfl rfl ?_; refine OpsE.ev (Ev.move rfl) rfl ?_) | refine OpsE.no rfl rfl rfl ?_ | refine OpsE.off rfl rfl rfl ?_
  first | (refine OpsE.yes rfl rfl ?_; refine OpsE.ex (Ex.call rfl Tryd.call10 (narm_spec 1 w _ H)) rfl ?_; (try clear H); rintro _ w ⟨rfl, H⟩) | refine OpsE.no rfl rfl rfl ?_ | refine OpsE.off rfl rfl rfl ?_
  first | (refine OpsE.yes rfl rfl ?_; refine OpsE.ex (Ex.call rfl Tryd.call7 (num_ev 1 w _ hE H)) rfl ?_; (try clear H); rintro _ w ⟨rfl, H⟩) | refine OpsE.no rfl rfl rfl ?_ | refine OpsE.off rfl rfl rfl ?_
  first | (refine OpsE.yes rfl rfl ?_; refine OpsE.ev (Ev.neq (r := false) rfl rfl rfl) rfl ?_) | refine OpsE.no rfl rfl rfl ?_ | refine OpsE.off rfl rfl rfl ?_
  refine OpsE.ev ((by first | exact Ev.pickT rfl rfl | exact Ev.pickF rfl rfl)) rfl ?_
  refine OpsE.ev (Ev.move rfl) rfl ?_
  first | (refine OpsE.yes rfl rfl ?_; refine OpsE.ev (Ev.move rfl) rfl ?_) | refine OpsE.no rfl rfl rfl ?_ | refine OpsE.off rfl rfl rfl ?_
  first | (refine OpsE.yes rfl rfl ?_; refine OpsE.ex (Ex.call rfl Tryd.call11 (npages_spec w _ H)) rfl ?_; (try clear H); rintro _ w ⟨rfl, H⟩) | refine OpsE.no rfl rfl rfl ?_ | refine OpsE.off rfl rfl rfl ?_
  first | (refine OpsE.yes rfl rfl ?_; refine OpsE.ev (Ev.move rfl) rfl ?_) | refine OpsE.no rfl rfl rfl ?_ | refine OpsE.off rfl rfl rfl ?_
  first | (refine OpsE.yes rfl rfl ?_; refine OpsE.ex (Ex.call rfl Tryd.call12 (nloose_spec w _ H)) rfl ?_; (try clear H); rintro _ w ⟨rfl, H⟩) | refine OpsE.no rfl rfl rfl ?_ | refine OpsE.off rfl rfl rfl ?_
  first | (refine OpsE.yes rfl rfl ?_; refine OpsE.ev (Ev.add (c := 0) rfl rfl (by decide +kernel)) rfl ?_) | refine OpsE.no rfl rfl rfl ?_ | refine OpsE.off rfl rfl rfl ?_
  first | (refine OpsE.yes rfl rfl ?_; refine OpsE.ev (Ev.neq (r := false) rfl rfl rfl) rfl ?_) | refine OpsE.no rfl rfl rfl ?_ | refine OpsE.off rfl rfl rfl ?_
  refine OpsE.ev ((by first | exact Ev.pickT rfl rfl | exact Ev.pickF rfl rfl)) rfl ?_
  refine OpsE.ev (Ev.move rfl) rfl ?_
  first | (refine OpsE.yes rfl rfl ?_; refine OpsE.ev (Ev.move rfl) rfl ?_) | refine OpsE.no rfl rfl rfl ?_ | refine OpsE.off rfl rfl rfl ?_
  first | (refine OpsE.yes rfl rfl ?_; refine OpsE.ex (Ex.call rfl Tryd.call13 (ndown_spec w _ H)) rfl ?_; (try clear H); rintro _ w ⟨rfl, H⟩) | refine OpsE.no rfl rfl rfl ?_ | refine OpsE.off rfl rfl rfl ?_
  refine OpsE.ev ((by first | exact Ev.pickT rfl rfl | exact Ev.pickF rfl rfl)) rfl ?_
  refine OpsE.nil ?_
  by_cases hmany : many < 1 ∨ 4096 < many
  ·
    repeat (first | refine RunsE.seq ?_ | refine RunsE.skip ?_ | refine RunsE.block ?_ | refine RunsE.inBlock ?_ | refine RunsE.yes rfl ?_ | refine RunsE.no rfl ?_ | refine RunsE.exit rfl ?_)
    refine RunsE.region ?_
    refine OpsE.ev (Ev.move rfl) rfl ?_
    refine OpsE.ex (Ex.call rfl Tryd.call14 (new_bad many hmany w _ H)) rfl ?_; (try clear H); rintro _ w ⟨rfl, H⟩
    refine OpsE.ev (Ev.move rfl) rfl ?_
    refine OpsE.ev (Ev.extract rfl rfl) rfl ?_
    refine OpsE.ev (Ev.extract rfl rfl) rfl ?_
    refine OpsE.ev (Ev.assign rfl) rfl ?_
    refine OpsE.ev (Ev.assign rfl) rfl ?_
    refine OpsE.nil ?_
    repeat (first | refine RunsE.seq ?_ | refine RunsE.skip ?_ | refine RunsE.block ?_ | refine RunsE.inBlock ?_ | refine RunsE.yes rfl ?_ | refine RunsE.no rfl ?_ | refine RunsE.exit rfl ?_)
    refine RunsE.region ?_
    refine OpsE.ev (Ev.move rfl) rfl ?_
    refine OpsE.ex (Ex.call rfl Tryd.call15 (rnew_bad many hmany w _ H)) rfl ?_; (try clear H); rintro _ w ⟨rfl, H⟩
    refine OpsE.ev (Ev.move rfl) rfl ?_
    refine OpsE.ev (Ev.extract rfl rfl) rfl ?_
    refine OpsE.ev (Ev.extract rfl rfl) rfl ?_
    refine OpsE.ex (Ex.alloc (zv := .agg #[.slice none 0 0, .slice none 0 0, .int .i64 0, .bool false]) H (by kernel_rfl)) rfl ?_; (try clear H); rintro _ w ⟨b10, rfl, H⟩; simp only [Value.cells] at H
    refine OpsE.exn (Ex.storeBlk (n := 4) (vs := [.slice none 0 0, .slice none 0 0, .int .i64 0, .bool false]) H rfl rfl (by kernel_rfl) rfl (by simp [Value.oneCell']) u0 rfl (Thaw.zero _ _)) ?_; (try clear H); intro _ w H
    refine OpsE.ev (Ev.assign rfl) rfl ?_
    refine OpsE.nil ?_
    replace H := H.drop
    repeat (first | refine RunsE.seq ?_ | refine RunsE.skip ?_ | refine RunsE.block ?_ | refine RunsE.inBlock ?_ | refine RunsE.yes rfl ?_ | refine RunsE.no rfl ?_ | refine RunsE.exit rfl ?_)
    refine RunsE.region ?_
    refine OpsE.ev (Ev.move rfl) rfl ?_
    refine OpsE.ex (Ex.call rfl Tryd.call7 (num_ev 1 w _ hE H)) rfl ?_; (try clear H); rintro _ w ⟨rfl, H⟩
    refine OpsE.ev (Ev.move rfl) rfl ?_
    refine OpsE.ev (Ev.neq (r := false) rfl rfl rfl) rfl ?_
    refine OpsE.ev (Ev.move rfl) rfl ?_
    first | (refine OpsE.yes rfl rfl ?_; refine OpsE.ev (Ev.move rfl) rfl ?_) | refine OpsE.no rfl rfl rfl ?_ | refine OpsE.off rfl rfl rfl ?_
    first | (refine OpsE.yes rfl rfl ?_; refine OpsE.ev (Ev.ptrNilEq (el := 62) rfl rfl (by kernel_rfl)) rfl ?_) | refine OpsE.no rfl rfl rfl ?_ | refine OpsE.off rfl rfl rfl ?_
    first | (refine OpsE.yes rfl rfl ?_; refine OpsE.ev (Ev.move rfl) rfl ?_) | refine OpsE.no rfl rfl rfl ?_ | refine OpsE.off rfl rfl rfl ?_
    first | (refine OpsE.yes rfl rfl ?_; refine OpsE.ev (Ev.neq (r := true) rfl rfl rfl) rfl ?_) | refine OpsE.no rfl rfl rfl ?_ | refine OpsE.off rfl rfl rfl ?_
    first | (refine OpsE.yes rfl rfl ?_; refine OpsE.ev (Ev.boolNe (r := false) rfl rfl Tryd.underlying4) rfl ?_) | refine OpsE.no rfl rfl rfl ?_ | refine OpsE.off rfl rfl rfl ?_
    refine OpsE.ev ((by first | exact Ev.pickT rfl rfl | exact Ev.pickF rfl rfl)) rfl ?_
    refine OpsE.nil ?_
    repeat (first | refine RunsE.seq ?_ | refine RunsE.skip ?_ | refine RunsE.block ?_ | refine RunsE.inBlock ?_ | refine RunsE.yes rfl ?_ | refine RunsE.no rfl ?_ | refine RunsE.exit rfl ?_)
    refine RunsE.region ?_
    refine OpsE.ev (Ev.move rfl) rfl ?_
    refine OpsE.ev (Ev.neq (r := true) rfl rfl rfl) rfl ?_
    refine OpsE.ev (Ev.move rfl) rfl ?_
    first | (refine OpsE.yes rfl rfl ?_; refine OpsE.ev (Ev.move rfl) rfl ?_) | refine OpsE.no rfl rfl rfl ?_ | refine OpsE.off rfl rfl rfl ?_
    first | (refine OpsE.yes rfl rfl ?_; refine OpsE.ev (Ev.gtr rfl rfl rfl) rfl ?_) | refine OpsE.no rfl rfl rfl ?_ | refine OpsE.off rfl rfl rfl ?_
    refine OpsE.ev ((by first | exact Ev.pickT rfl rfl | exact Ev.pickF rfl rfl)) rfl ?_
    refine OpsE.nil ?_
    repeat (first | refine RunsE.seq ?_ | refine RunsE.skip ?_ | refine RunsE.block ?_ | refine RunsE.inBlock ?_ | refine RunsE.yes rfl ?_ | refine RunsE.no rfl ?_ | refine RunsE.exit rfl ?_)
    refine RunsE.region ?_
    refine OpsE.ex (Ex.call rfl Tryd.call16 (sure_spec w _ H)) rfl ?_; (try clear H); rintro _ w ⟨rfl, H⟩
    refine OpsE.ev (Ev.assign rfl) rfl ?_
    refine OpsE.nil ?_
    repeat (first | refine RunsE.seq ?_ | refine RunsE.skip ?_ | refine RunsE.block ?_ | refine RunsE.inBlock ?_ | refine RunsE.yes rfl ?_ | refine RunsE.no rfl ?_ | refine RunsE.exit rfl ?_)
    exact RunsE.ret1 Tryd.func3 rfl rfl ⟨rfl, H⟩
  obtain ⟨n, rfl⟩ : ∃ n : Nat, many = (n : Int) := ⟨many.toNat, by omega⟩
  repeat (first | refine RunsE.seq ?_ | refine RunsE.skip ?_ | refine RunsE.block ?_ | refine RunsE.inBlock ?_ | refine RunsE.yes rfl ?_ | refine RunsE.no rfl ?_ | refine RunsE.exit rfl ?_)
  refine RunsE.region ?_
  refine OpsE.ev (Ev.move rfl) rfl ?_
  refine OpsE.ex (Ex.call rfl Tryd.call14 (new_spec n (by omega) (by omega) w _ H)) rfl ?_; (try clear H); rintro _ w ⟨b, A, rfl, hA, H⟩
  refine OpsE.ev (Ev.move rfl) rfl ?_
  refine OpsE.ev (Ev.extract rfl rfl) rfl ?_
  refine OpsE.ev (Ev.extract rfl rfl) rfl ?_
  refine OpsE.ev (Ev.assign rfl) rfl ?_
  refine OpsE.ev (Ev.assign rfl) rfl ?_
  refine OpsE.nil ?_
  repeat (first | refine RunsE.seq ?_ | refine RunsE.skip ?_ | refine RunsE.block ?_ | refine RunsE.inBlock ?_ | refine RunsE.yes rfl ?_ | refine RunsE.no rfl ?_ | refine RunsE.exit rfl ?_)
  refine RunsE.region ?_
  refine OpsE.ev (Ev.move rfl) rfl ?_
  refine OpsE.ex (Ex.call rfl Tryd.call15 (rnew_spec n (by omega) (by omega) w _ F H)) rfl ?_; (try clear H); rintro _ w ⟨D, x, rfl, hR, H⟩
  refine OpsE.ev (Ev.move rfl) rfl ?_
  refine OpsE.ev (Ev.extract rfl rfl) rfl ?_
  refine OpsE.ev (Ev.extract rfl rfl) rfl ?_
  refine OpsE.ex (Ex.alloc (zv := .agg #[.slice none 0 0, .slice none 0 0, .int .i64 0, .bool false]) H (by kernel_rfl)) rfl ?_; (try clear H); rintro _ w ⟨b10, rfl, H⟩; simp only [Value.cells] at H
  refine OpsE.exn (Ex.storeBlk (n := 4) (vs := refV (St.new n) x) H rfl rfl (by kernel_rfl) rfl (refV_one _ _) u0 rfl (Thaw.zero _ _)) ?_; (try clear H); intro _ w H
  refine OpsE.ev (Ev.assign rfl) rfl ?_
  refine OpsE.nil ?_
  repeat (first | refine RunsE.seq ?_ | refine RunsE.skip ?_ | refine RunsE.block ?_ | refine RunsE.inBlock ?_ | refine RunsE.yes rfl ?_ | refine RunsE.no rfl ?_ | refine RunsE.exit rfl ?_)
  refine RunsE.region ?_
  refine OpsE.ev (Ev.move rfl) rfl ?_
  refine OpsE.ex (Ex.call rfl Tryd.call7 (num_ev 0 w _ hE.right.right.tail H)) rfl ?_; (try clear H); rintro _ w ⟨rfl, H⟩
  refine OpsE.ev (Ev.move rfl) rfl ?_
  refine OpsE.ev (Ev.neq (r := false) rfl rfl rfl) rfl ?_
  refine OpsE.ev (Ev.move rfl) rfl ?_
  first | (refine OpsE.yes rfl rfl ?_; refine OpsE.ev (Ev.move rfl) rfl ?_) | refine OpsE.no rfl rfl rfl ?_ | refine OpsE.off rfl rfl rfl ?_
  first | (refine OpsE.yes rfl rfl ?_; refine OpsE.ev (Ev.ptrNilEq (el := 62) rfl rfl (by kernel_rfl)) rfl ?_) | refine OpsE.no rfl rfl rfl ?_ | refine OpsE.off rfl rfl rfl ?_
  first | (refine OpsE.yes rfl rfl ?_; refine OpsE.ev (Ev.move rfl) rfl ?_) | refine OpsE.no rfl rfl rfl ?_ | refine OpsE.off rfl rfl rfl ?_
  first | (refine OpsE.yes rfl rfl ?_; refine OpsE.ev (Ev.neq (r := false) rfl rfl rfl) rfl ?_) | refine OpsE.no rfl rfl rfl ?_ | refine OpsE.off rfl rfl rfl ?_
  first | (refine OpsE.yes rfl rfl ?_; refine OpsE.ev (Ev.boolNe (r := false) rfl rfl Tryd.underlying4) rfl ?_) | refine OpsE.no rfl rfl rfl ?_ | refine OpsE.off rfl rfl rfl ?_
  refine OpsE.ev ((by first | exact Ev.pickT rfl rfl | exact Ev.pickF rfl rfl)) rfl ?_
  refine OpsE.nil ?_
  by_cases h100 : 100 < n
  ·
    repeat (first | refine RunsE.seq ?_ | refine RunsE.skip ?_ | refine RunsE.block ?_ | refine RunsE.inBlock ?_ | refine RunsE.yes rfl ?_ | refine RunsE.no rfl ?_ | refine RunsE.exit rfl ?_)
    refine RunsE.region ?_
    refine OpsE.ev (Ev.move rfl) rfl ?_
    refine OpsE.ev (Ev.neq (r := false) rfl rfl rfl) rfl ?_
    refine OpsE.ev (Ev.move rfl) rfl ?_
    first | (refine OpsE.yes rfl rfl ?_; refine OpsE.ev (Ev.move rfl) rfl ?_) | refine OpsE.no rfl rfl rfl ?_ | refine OpsE.off rfl rfl rfl ?_
    first | (refine OpsE.yes rfl rfl ?_; refine OpsE.ev (Ev.gtr (r := true) rfl rfl (decide_eq_true (by omega))) rfl ?_) | refine OpsE.no rfl rfl rfl ?_ | refine OpsE.off rfl rfl rfl ?_
    refine OpsE.ev ((by first | exact Ev.pickT rfl rfl | exact Ev.pickF rfl rfl)) rfl ?_
    refine OpsE.nil ?_
    repeat (first | refine RunsE.seq ?_ | refine RunsE.skip ?_ | refine RunsE.block ?_ | refine RunsE.inBlock ?_ | refine RunsE.yes rfl ?_ | refine RunsE.no rfl ?_ | refine RunsE.exit rfl ?_)
    refine RunsE.region ?_
    refine OpsE.ex (Ex.call rfl Tryd.call16 (sure_spec w _ H)) rfl ?_; (try clear H); rintro _ w ⟨rfl, H⟩
    refine OpsE.ev (Ev.assign rfl) rfl ?_
    refine OpsE.nil ?_
    repeat (first | refine RunsE.seq ?_ | refine RunsE.skip ?_ | refine RunsE.block ?_ | refine RunsE.inBlock ?_ | refine RunsE.yes rfl ?_ | refine RunsE.no rfl ?_ | refine RunsE.exit rfl ?_)
    exact RunsE.ret1 Tryd.func3 rfl rfl ⟨rfl, H.drop.dropL.dropL⟩
  have HP : Pair F b b10 n 0 w := .of ⟨St.new n, x, A, D, hA, hR, by simp [St.new], Nat.le_refl _, H.perm ((List.perm_middle).trans ((perm_in A D F).cons _))⟩
  clear hA hR H
  repeat (first | refine RunsE.seq ?_ | refine RunsE.skip ?_ | refine RunsE.block ?_ | refine RunsE.inBlock ?_ | refine RunsE.yes rfl ?_ | refine RunsE.no rfl ?_ | refine RunsE.exit rfl ?_)
  refine RunsE.region ?_
  refine OpsE.ev (Ev.move rfl) rfl ?_
  refine OpsE.ev (Ev.neq (r := false) rfl rfl rfl) rfl ?_
  refine OpsE.ev (Ev.move rfl) rfl ?_
  first | (refine OpsE.yes rfl rfl ?_; refine OpsE.ev (Ev.move rfl) rfl ?_) | refine OpsE.no rfl rfl rfl ?_ | refine OpsE.off rfl rfl rfl ?_
  first | (refine OpsE.yes rfl rfl ?_; refine OpsE.ev (Ev.gtr (r := false) rfl rfl (decide_eq_false (by omega))) rfl ?_) | refine OpsE.no rfl rfl rfl ?_ | refine OpsE.off rfl rfl rfl ?_
  refine OpsE.ev ((by first | exact Ev.pickT rfl rfl | exact Ev.pickF rfl rfl)) rfl ?_
  refine OpsE.nil ?_
  repeat (first | refine RunsE.seq ?_ | refine RunsE.skip ?_ | refine RunsE.block ?_ | refine RunsE.inBlock ?_ | refine RunsE.yes rfl ?_ | refine RunsE.no rfl ?_ | refine RunsE.exit rfl ?_)
  refine RunsE.region ?_
  refine OpsE.ev (Ev.assign rfl) rfl ?_
  refine OpsE.nil ?_
  repeat refine RunsE.seq ?_
  refine RunsE.join (fun _ : Unit => [(0, .int .i64 (n : Int)), (8, .pointer (some ⟨b, 0, none⟩)), (10, .pointer (some ⟨b10, 0, none⟩))]) (fun _ w => Pair F b b10 n 40 w) (fun next => ?_) ?_
  · refine RunsE.block ?_
    refine RunsE.loop (fun i : Nat => [(0, .int .i64 (n : Int)), (1, .slice al l.length cl), (8, .pointer (some ⟨b, 0, none⟩)), (10, .pointer (some ⟨b10, 0, none⟩)), (12, .int .i64 (i : Int))])
      (fun i w => i ≤ 40 ∧ Pair F b b10 n i w) (fun i => 40 - i) 0 ⟨rfl, rfl, rfl, rfl, rfl, trivial⟩ ⟨by omega, HP⟩ ?_
    clear HP x A D
    rintro i w ⟨hi, HP⟩ nextL
    obtain ⟨s, x, A, D, hA, hR, hn, hq, H⟩ := HP.ex
    by_cases h1 : l.length ≤ i
    ·
      repeat (first | refine RunsE.seq ?_ | refine RunsE.skip ?_ | refine RunsE.block ?_ | refine RunsE.inBlock ?_ | refine RunsE.yes rfl ?_ | refine RunsE.no rfl ?_ | refine RunsE.exit rfl ?_)
      refine RunsE.region ?_
      refine OpsE.ev (Ev.move rfl) rfl ?_
      refine OpsE.ev (Ev.move rfl) rfl ?_
      refine OpsE.ev (Ev.lenSl (d := 46) rfl rfl (by kernel_rfl)) rfl ?_
      refine OpsE.ev (Ev.lss (r := false) rfl rfl (decide_eq_false (by omega))) rfl ?_
      refine OpsE.ev (Ev.move rfl) rfl ?_
      first | (refine OpsE.yes rfl rfl ?_; refine OpsE.ev (Ev.move rfl) rfl ?_) | refine OpsE.no rfl rfl rfl ?_ | refine OpsE.off rfl rfl rfl ?_
      first | (refine OpsE.yes rfl rfl ?_; refine OpsE.ev (Ev.lss rfl rfl) rfl ?_) | refine OpsE.no rfl rfl rfl ?_ | refine OpsE.off rfl rfl rfl ?_
      refine OpsE.ev ((by first | exact Ev.pickT rfl rfl | exact Ev.pickF rfl rfl)) rfl ?_
      refine OpsE.nil ?_
      repeat refine RunsE.seq ?_
      refine RunsE.no rfl ?_
      refine RunsE.exit rfl ?_
      exact next () _ _ (.of ⟨s, x, A, D, hA, hR, hn, by omega, H⟩) ⟨rfl, rfl, rfl, trivial⟩
    by_cases h2 : i = 40
    ·
      repeat (first | refine RunsE.seq ?_ | refine RunsE.skip ?_ | refine RunsE.block ?_ | refine RunsE.inBlock ?_ | refine RunsE.yes rfl ?_ | refine RunsE.no rfl ?_ | refine RunsE.exit rfl ?_)
      refine RunsE.region ?_
      refine OpsE.ev (Ev.move rfl) rfl ?_
      refine OpsE.ev (Ev.move rfl) rfl ?_
      refine OpsE.ev (Ev.lenSl (d := 46) rfl rfl (by kernel_rfl)) rfl ?_
      refine OpsE.ev (Ev.lss (r := true) rfl rfl (decide_eq_true (by omega))) rfl ?_
      refine OpsE.ev (Ev.move rfl) rfl ?_
      first | (refine OpsE.yes rfl rfl ?_; refine OpsE.ev (Ev.move rfl) rfl ?_) | refine OpsE.no rfl rfl rfl ?_ | refine OpsE.off rfl rfl rfl ?_
      first | (refine OpsE.yes rfl rfl ?_; refine OpsE.ev (Ev.lss (r := false) rfl rfl (decide_eq_false (by omega))) rfl ?_) | refine OpsE.no rfl rfl rfl ?_ | refine OpsE.off rfl rfl rfl ?_
      refine OpsE.ev ((by first | exact Ev.pickT rfl rfl | exact Ev.pickF rfl rfl)) rfl ?_
      refine OpsE.nil ?_
      repeat refine RunsE.seq ?_
      refine RunsE.no rfl ?_
      refine RunsE.exit rfl ?_
      exact next () _ _ (.of ⟨s, x, A, D, hA, hR, hn, by omega, H⟩) ⟨rfl, rfl, rfl, trivial⟩
    clear next HP
    obtain ⟨a, ha⟩ : ∃ a, l[i]? = some a := ⟨l[i]'(by omega), by simp [show i < l.length by omega]⟩
    obtain ⟨ba, oa, rfl, hat⟩ := hvl.at ha
    obtain ⟨ad, cd, ak, ck, hdat, hkp, hcells⟩ := hat.cells
    have hkl := hkeep a (List.mem_of_getElem? ha)
    have hdB := hat.dataB
    obtain ⟨m, hm, _⟩ := u64_nat a.kind
    obtain ⟨k, hk⟩ : ∃ k, k = m % 7 := ⟨_, rfl⟩
    have hk7 : k < 7 := by omega
    have hG : ∀ (c : Nat × Obj), ∀ y ∈ D ++ F, y ∈ c :: (D ++ F) := fun c y hy => .tail _ hy
    repeat (first | refine RunsE.seq ?_ | refine RunsE.skip ?_ | refine RunsE.block ?_ | refine RunsE.inBlock ?_ | refine RunsE.yes rfl ?_ | refine RunsE.no rfl ?_ | refine RunsE.exit rfl ?_)
    refine RunsE.region ?_
    refine OpsE.ev (Ev.move rfl) rfl ?_
    refine OpsE.ev (Ev.move rfl) rfl ?_
    refine OpsE.ev (Ev.lenSl (d := 46) rfl rfl (by kernel_rfl)) rfl ?_
    refine OpsE.ev (Ev.lss (r := true) rfl rfl (decide_eq_true (by omega))) rfl ?_
    refine OpsE.ev (Ev.move rfl) rfl ?_
    first | (refine OpsE.yes rfl rfl ?_; refine OpsE.ev (Ev.move rfl) rfl ?_) | refine OpsE.no rfl rfl rfl ?_ | refine OpsE.off rfl rfl rfl ?_
    first | (refine OpsE.yes rfl rfl ?_; refine OpsE.ev (Ev.lss (r := true) rfl rfl (decide_eq_true (by omega))) rfl ?_) | refine OpsE.no rfl rfl rfl ?_ | refine OpsE.off rfl rfl rfl ?_
    refine OpsE.ev ((by first | exact Ev.pickT rfl rfl | exact Ev.pickF rfl rfl)) rfl ?_
    refine OpsE.nil ?_
    repeat (first | refine RunsE.seq ?_ | refine RunsE.skip ?_ | refine RunsE.block ?_ | refine RunsE.inBlock ?_ | refine RunsE.yes rfl ?_ | refine RunsE.no rfl ?_ | refine RunsE.exit rfl ?_)
    repeat (first | refine RunsE.seq ?_ | refine RunsE.skip ?_ | refine RunsE.block ?_ | refine RunsE.inBlock ?_ | refine RunsE.yes rfl ?_ | refine RunsE.no rfl ?_ | refine RunsE.exit rfl ?_)
    refine RunsE.region ?_
    refine OpsE.ev (Ev.assign rfl) rfl ?_
    refine OpsE.ev (Ev.assign rfl) rfl ?_
    refine OpsE.nil ?_
    repeat (first | refine RunsE.seq ?_ | refine RunsE.skip ?_ | refine RunsE.block ?_ | refine RunsE.inBlock ?_ | refine RunsE.yes rfl ?_ | refine RunsE.no rfl ?_ | refine RunsE.exit rfl ?_)
    refine RunsE.region ?_
    refine OpsE.ev (Ev.move rfl) rfl ?_
    refine OpsE.ev (Ev.move rfl) rfl ?_
    refine OpsE.ev (Ev.iaSl (n := 46) (sz := 5) (m := i) rfl rfl rfl (by kernel_rfl) (by omega)) rfl ?_
    refine OpsE.ev (Ev.loadAgg (vs := [.int .i64 a.kind, .int .i64 a.page, .int .i64 a.n, .slice ad a.data.length cd, .slice ak a.keep.length ck]) H rfl (by kernel_rfl) (fun j v hj => by rw [add_none]; exact (hcells j v hj).right.tail.right)) rfl ?_
    refine OpsE.ex (Ex.alloc (zv := .agg #[.int .i64 0, .int .i64 0, .int .i64 0, .slice none 0 0, .slice none 0 0]) H (by kernel_rfl)) rfl ?_; (try clear H); rintro _ w ⟨b15, rfl, H⟩; simp only [Value.cells] at H
    refine OpsE.exn (Ex.storeBlk (n := 5) (vs := [.int .i64 a.kind, .int .i64 a.page, .int .i64 a.n, .slice ad a.data.length cd, .slice ak a.keep.length ck]) H rfl rfl (by kernel_rfl) rfl (by simp [Value.oneCell']) u0 rfl (Thaw.zero _ _)) ?_; (try clear H); intro _ w H; replace H := H.mid
    refine OpsE.nil ?_
    repeat (first | refine RunsE.seq ?_ | refine RunsE.skip ?_ | refine RunsE.block ?_ | refine RunsE.inBlock ?_ | refine RunsE.yes rfl ?_ | refine RunsE.no rfl ?_ | refine RunsE.exit rfl ?_)
    refine RunsE.region ?_
    refine OpsE.ev (Ev.fieldAddr (o := 0) rfl (by kernel_rfl)) rfl ?_
    refine OpsE.ev (Ev.load H rfl (by kernel_rfl) (Rd.right (Rd.mk m0 rfl))) rfl ?_
    refine OpsE.ev (Ev.conv (k' := .u64) (c := (m : Int)) rfl (by kernel_rfl) (by kernel_rfl) hm) rfl ?_
    refine OpsE.ev (Ev.rem (c := (k : Int)) rfl rfl (by omega) (by rw [hk]; exact qrem m 7)) rfl ?_
    refine OpsE.ev (Ev.conv (k' := .i64) (c := (k : Int)) rfl (by kernel_rfl) (by kernel_rfl) (qi64 (by omega) (by omega))) rfl ?_
    refine OpsE.nil ?_
    repeat refine RunsE.seq ?_
    refine RunsE.join (fun e : Nat => [(0, .int .i64 (n : Int)), (1, .slice (some ⟨ba, oa, none⟩) l.length cl), (8, .pointer (some ⟨b, 0, none⟩)), (10, .pointer (some ⟨b10, 0, none⟩)), (12, .int .i64 (i : Int)), (13, EV e), (14, .int .i64 (e : Int))])
      (fun _ w => Pair F b b10 n (i + 1) w) (fun next => ?_) ?_
    · refine RunsE.block ?_
      by_cases k3 : k = 3
      ·
        repeat (first | refine RunsE.seq ?_ | refine RunsE.skip ?_ | refine RunsE.block ?_ | refine RunsE.inBlock ?_ | refine RunsE.yes rfl ?_ | refine RunsE.no rfl ?_ | refine RunsE.exit rfl ?_)
        refine RunsE.region ?_
        refine OpsE.ev (Ev.eql (r := true) rfl rfl (beq_iff_eq.2 (by omega))) rfl ?_
        refine OpsE.ev (Ev.assign rfl) rfl ?_
        refine OpsE.nil ?_
        repeat (first | refine RunsE.seq ?_ | refine RunsE.skip ?_ | refine RunsE.block ?_ | refine RunsE.inBlock ?_ | refine RunsE.yes rfl ?_ | refine RunsE.no rfl ?_ | refine RunsE.exit rfl ?_)
        refine RunsE.region ?_
        refine OpsE.ev (Ev.move rfl) rfl ?_
        refine OpsE.ex (Ex.call rfl Tryd.call9 (sync_spec s b A (by omega) w _ hA H)) rfl ?_; (try clear H); rintro _ w ⟨A, rfl, hA, H⟩
        refine OpsE.ev (Ev.assign rfl) rfl ?_
        refine OpsE.nil ?_
        repeat (first | refine RunsE.seq ?_ | refine RunsE.skip ?_ | refine RunsE.block ?_ | refine RunsE.inBlock ?_ | refine RunsE.yes rfl ?_ | refine RunsE.no rfl ?_ | refine RunsE.exit rfl ?_)
        refine RunsE.region ?_
        refine OpsE.ev (Ev.loadBlk (n := 4) (vs := refV s x) H rfl (by kernel_rfl) rfl (List.mem_append_right A m1)) rfl ?_
        refine OpsE.ex (Ex.call rfl Tryd.call17 (rsync_spec s x (by omega) w _ (D ++ F) (fun y hy => List.mem_append_right _ (.tail _ (.tail _ hy))) hR H)) rfl ?_; (try clear H); rintro _ w ⟨B, x', rfl, hR, H⟩
        refine OpsE.ev (Ev.move rfl) rfl ?_
        refine OpsE.ev (Ev.extract rfl rfl) rfl ?_
        refine OpsE.ev (Ev.extract rfl rfl) rfl ?_
        refine OpsE.exn (Ex.storeBlk (n := 4) (vs := refV s.sync.1 x') H rfl rfl (by kernel_rfl) rfl (refV_one _ _) (Upd.skip (Upd.skip u1 A) B) rfl (Thaw.zero _ _)) ?_; (try clear H); intro _ w H
        refine OpsE.ev (Ev.assign rfl) rfl ?_
        refine OpsE.nil ?_
        refine RunsE.inBlock ?_
        have := sync_P s
        exact next _ _ _ (.of ⟨s.sync.1, x', A, B ++ D, hA, by rw [List.append_assoc]; exact hR, by omega, by omega, H.fin5⟩) ⟨rfl, rfl, rfl, rfl, rfl, rfl, rfl, trivial⟩
      by_cases k4 : k = 4
      ·
        repeat (first | refine RunsE.seq ?_ | refine RunsE.skip ?_ | refine RunsE.block ?_ | refine RunsE.inBlock ?_ | refine RunsE.yes rfl ?_ | refine RunsE.no rfl ?_ | refine RunsE.exit rfl ?_)
        refine RunsE.region ?_
        refine OpsE.ev (Ev.eql (r := false) rfl rfl (beq_eq_false_iff_ne.2 (by omega))) rfl ?_
        refine OpsE.ev (Ev.assign rfl) rfl ?_
        refine OpsE.nil ?_
        repeat (first | refine RunsE.seq ?_ | refine RunsE.skip ?_ | refine RunsE.block ?_ | refine RunsE.inBlock ?_ | refine RunsE.yes rfl ?_ | refine RunsE.no rfl ?_ | refine RunsE.exit rfl ?_)
        refine RunsE.region ?_
        refine OpsE.ev (Ev.eql (r := true) rfl rfl (beq_iff_eq.2 (by omega))) rfl ?_
        refine OpsE.ev (Ev.assign rfl) rfl ?_
        refine OpsE.nil ?_
        repeat (first | refine RunsE.seq ?_ | refine RunsE.skip ?_ | refine RunsE.block ?_ | refine RunsE.inBlock ?_ | refine RunsE.yes rfl ?_ | refine RunsE.no rfl ?_ | refine RunsE.exit rfl ?_)
        refine RunsE.region ?_
        refine OpsE.ev (Ev.move rfl) rfl ?_
        refine OpsE.ev (Ev.fieldAddr (o := 1) rfl (by kernel_rfl)) rfl ?_
        refine OpsE.ev (Ev.load H rfl (by kernel_rfl) (Rd.right (Rd.mk m0 rfl))) rfl ?_
        refine OpsE.ex (Ex.call rfl Tryd.call5 (read_spec s a.page b A (by omega) w _ hA H)) rfl ?_; (try clear H); rintro _ w ⟨v, B, rfl, hs, H⟩
        refine OpsE.ev (Ev.move rfl) rfl ?_
        refine OpsE.ev (Ev.extract rfl rfl) rfl ?_
        refine OpsE.ev (Ev.extract rfl rfl) rfl ?_
        refine OpsE.ev (Ev.assign rfl) rfl ?_
        refine OpsE.ev (Ev.assign rfl) rfl ?_
        refine OpsE.nil ?_
        repeat (first | refine RunsE.seq ?_ | refine RunsE.skip ?_ | refine RunsE.block ?_ | refine RunsE.inBlock ?_ | refine RunsE.yes rfl ?_ | refine RunsE.no rfl ?_ | refine RunsE.exit rfl ?_)
        refine RunsE.region ?_
        refine OpsE.ev (Ev.loadBlk (n := 4) (vs := refV s x) H rfl (by kernel_rfl) rfl (List.mem_append_right B (List.mem_append_right A m1))) rfl ?_
        refine OpsE.ev (Ev.fieldAddr (o := 1) rfl (by kernel_rfl)) rfl ?_
        refine OpsE.ev (Ev.load H rfl (by kernel_rfl) (Rd.right (Rd.right (Rd.mk m0 rfl)))) rfl ?_
        refine OpsE.ex (Ex.call rfl Tryd.call18 (rread_spec s a.page x (by omega) w _ (D ++ F) (fun y hy => List.mem_append_right _ (List.mem_append_right _ (.tail _ (.tail _ hy)))) hR H)) rfl ?_; (try clear H); rintro _ w ⟨u, rfl, hu, H⟩
        refine OpsE.ev (Ev.move rfl) rfl ?_
        refine OpsE.ev (Ev.extract rfl rfl) rfl ?_
        refine OpsE.ev (Ev.extract rfl rfl) rfl ?_
        refine OpsE.ev (Ev.assign rfl) rfl ?_
        refine OpsE.ev (Ev.assign rfl) rfl ?_
        refine OpsE.nil ?_
        repeat (first | refine RunsE.seq ?_ | refine RunsE.skip ?_ | refine RunsE.block ?_ | refine RunsE.inBlock ?_ | refine RunsE.yes rfl ?_ | refine RunsE.no rfl ?_ | refine RunsE.exit rfl ?_)
        refine RunsE.region ?_
        refine OpsE.ev (Ev.move rfl) rfl ?_
        refine OpsE.ev (Ev.inpStr H rfl hs.inp Tryd.underlying24 Tryd.underlying5 Tryd.underlying9) rfl ?_
        refine OpsE.ev (Ev.move rfl) rfl ?_
        refine OpsE.ev (Ev.inpStr H rfl hu.tail.tail.right.right Tryd.underlying24 Tryd.underlying5 Tryd.underlying9) rfl ?_
        refine OpsE.ev (Ev.strNeBF rfl rfl) rfl ?_
        refine OpsE.ev (Ev.move rfl) rfl ?_
        first | (refine OpsE.yes rfl rfl ?_; refine OpsE.ev (Ev.move rfl) rfl ?_) | refine OpsE.no rfl rfl rfl ?_ | refine OpsE.off rfl rfl rfl ?_
        first | (refine OpsE.yes rfl rfl ?_; refine OpsE.ex (Ex.call rfl Tryd.call7 (num_ev _ w _ hE.right.tail.tail.right.right H)) rfl ?_; (try clear H); rintro _ w ⟨rfl, H⟩) | refine OpsE.no rfl rfl rfl ?_ | refine OpsE.off rfl rfl rfl ?_
        first | (refine OpsE.yes rfl rfl ?_; refine OpsE.ev (Ev.move rfl) rfl ?_) | refine OpsE.no rfl rfl rfl ?_ | refine OpsE.off rfl rfl rfl ?_
        first | (refine OpsE.yes rfl rfl ?_; refine OpsE.ev (Ev.neq (r := false) rfl rfl (by simp)) rfl ?_) | refine OpsE.no rfl rfl rfl ?_ | refine OpsE.off rfl rfl rfl ?_
        refine OpsE.ev ((by first | exact Ev.pickT rfl rfl | exact Ev.pickF rfl rfl)) rfl ?_
        refine OpsE.nil ?_
        repeat refine RunsE.seq ?_
        refine RunsE.no rfl ?_
        refine RunsE.skip ?_
        refine RunsE.inBlock ?_
        replace H : SL w (([] ++ A) ++ (_ :: _ :: (D ++ F))) := H.dropL
        exact next 0 _ _ (.of ⟨s, x, A, D, hA, hR, hn, by omega, H.dropMid⟩) ⟨rfl, rfl, rfl, rfl, rfl, rfl, rfl, trivial⟩
      by_cases k5 : k = 5
      ·
        repeat (first | refine RunsE.seq ?_ | refine RunsE.skip ?_ | refine RunsE.block ?_ | refine RunsE.inBlock ?_ | refine RunsE.yes rfl ?_ | refine RunsE.no rfl ?_ | refine RunsE.exit rfl ?_)
        refine RunsE.region ?_
        refine OpsE.ev (Ev.eql (r := false) rfl rfl (beq_eq_false_iff_ne.2 (by omega))) rfl ?_
        refine OpsE.ev (Ev.assign rfl) rfl ?_
        refine OpsE.nil ?_
        repeat (first | refine RunsE.seq ?_ | refine RunsE.skip ?_ | refine RunsE.block ?_ | refine RunsE.inBlock ?_ | refine RunsE.yes rfl ?_ | refine RunsE.no rfl ?_ | refine RunsE.exit rfl ?_)
        refine RunsE.region ?_
        refine OpsE.ev (Ev.eql (r := false) rfl rfl (beq_eq_false_iff_ne.2 (by omega))) rfl ?_
        refine OpsE.ev (Ev.assign rfl) rfl ?_
        refine OpsE.nil ?_
        repeat (first | refine RunsE.seq ?_ | refine RunsE.skip ?_ | refine RunsE.block ?_ | refine RunsE.inBlock ?_ | refine RunsE.yes rfl ?_ | refine RunsE.no rfl ?_ | refine RunsE.exit rfl ?_)
        refine RunsE.region ?_
        refine OpsE.ev (Ev.eql (r := true) rfl rfl (beq_iff_eq.2 (by omega))) rfl ?_
        refine OpsE.ev (Ev.assign rfl) rfl ?_
        refine OpsE.nil ?_
        by_cases hneg : a.n < 0
        ·
          repeat (first | refine RunsE.seq ?_ | refine RunsE.skip ?_ | refine RunsE.block ?_ | refine RunsE.inBlock ?_ | refine RunsE.yes rfl ?_ | refine RunsE.no rfl ?_ | refine RunsE.exit rfl ?_)
          refine RunsE.region ?_
          refine OpsE.ev (Ev.move rfl) rfl ?_
          refine OpsE.ev (Ev.fieldAddr (o := 2) rfl (by kernel_rfl)) rfl ?_
          refine OpsE.ev (Ev.load H rfl (by kernel_rfl) (Rd.right (Rd.mk m0 rfl))) rfl ?_
          refine OpsE.ex (Ex.call rfl Tryd.call10 (arm_bad a.n hneg b A w _ H)) rfl ?_; (try clear H); rintro _ w ⟨rfl, H⟩
          refine OpsE.ev (Ev.assign rfl) rfl ?_
          refine OpsE.nil ?_
          repeat (first | refine RunsE.seq ?_ | refine RunsE.skip ?_ | refine RunsE.block ?_ | refine RunsE.inBlock ?_ | refine RunsE.yes rfl ?_ | refine RunsE.no rfl ?_ | refine RunsE.exit rfl ?_)
          refine RunsE.region ?_
          refine OpsE.ev (Ev.loadBlk (n := 4) (vs := refV s x) H rfl (by kernel_rfl) rfl (List.mem_append_right A m1)) rfl ?_
          refine OpsE.ev (Ev.fieldAddr (o := 2) rfl (by kernel_rfl)) rfl ?_
          refine OpsE.ev (Ev.load H rfl (by kernel_rfl) (Rd.right (Rd.mk m0 rfl))) rfl ?_
          refine OpsE.ex (Ex.call rfl Tryd.call19 (rarm_bad s x a.n hneg w _ H)) rfl ?_; (try clear H); rintro _ w ⟨rfl, H⟩
          refine OpsE.ev (Ev.move rfl) rfl ?_
          refine OpsE.ev (Ev.extract rfl rfl) rfl ?_
          refine OpsE.ev (Ev.extract rfl rfl) rfl ?_
          refine OpsE.exn (Ex.storeBlk (n := 4) (vs := refV s x) H rfl rfl (by kernel_rfl) rfl (refV_one _ _) (Upd.skip u1 A) rfl (Thaw.zero _ _)) ?_; (try clear H); intro _ w H
          refine OpsE.ev (Ev.assign rfl) rfl ?_
          refine OpsE.nil ?_
          refine RunsE.inBlock ?_
          exact next 1 _ _ (.of ⟨s, x, A, D, hA, hR, hn, by omega, H.dropMid⟩) ⟨rfl, rfl, rfl, rfl, rfl, rfl, rfl, trivial⟩
        · obtain ⟨z, hz⟩ : ∃ z : Nat, a.n = (z : Int) := ⟨a.n.toNat, by omega⟩
          have hzB := hat.nB.2
          rw [hz] at H hzB
          have ok := hR.ok
          repeat (first | refine RunsE.seq ?_ | refine RunsE.skip ?_ | refine RunsE.block ?_ | refine RunsE.inBlock ?_ | refine RunsE.yes rfl ?_ | refine RunsE.no rfl ?_ | refine RunsE.exit rfl ?_)
          refine RunsE.region ?_
          refine OpsE.ev (Ev.move rfl) rfl ?_
          refine OpsE.ev (Ev.fieldAddr (o := 2) rfl (by kernel_rfl)) rfl ?_
          refine OpsE.ev (Ev.load H rfl (by kernel_rfl) (Rd.right (Rd.mk m0 rfl))) rfl ?_
          refine OpsE.ex (Ex.call rfl Tryd.call10 (arm_spec s z (by omega) b A w _ hA H)) rfl ?_; (try clear H); rintro _ w ⟨A, rfl, hA, H⟩
          refine OpsE.ev (Ev.assign rfl) rfl ?_
          refine OpsE.nil ?_
          repeat (first | refine RunsE.seq ?_ | refine RunsE.skip ?_ | refine RunsE.block ?_ | refine RunsE.inBlock ?_ | refine RunsE.yes rfl ?_ | refine RunsE.no rfl ?_ | refine RunsE.exit rfl ?_)
          refine RunsE.region ?_
          refine OpsE.ev (Ev.loadBlk (n := 4) (vs := refV s x) H rfl (by kernel_rfl) rfl (List.mem_append_right A m1)) rfl ?_
          refine OpsE.ev (Ev.fieldAddr (o := 2) rfl (by kernel_rfl)) rfl ?_
          refine OpsE.ev (Ev.load H rfl (by kernel_rfl) (Rd.right (Rd.mk m0 rfl))) rfl ?_
          refine OpsE.ex (Ex.call rfl Tryd.call19 (rarm_spec s x z w _ H)) rfl ?_; (try clear H); rintro _ w ⟨rfl, H⟩
          refine OpsE.ev (Ev.move rfl) rfl ?_
          refine OpsE.ev (Ev.extract rfl rfl) rfl ?_
          refine OpsE.ev (Ev.extract rfl rfl) rfl ?_
          refine OpsE.exn (Ex.storeBlk (n := 4) (vs := refV (s.arm z) x) H rfl rfl (by kernel_rfl) rfl (refV_one _ _) (Upd.skip u1 A) rfl (Thaw.zero _ _)) ?_; (try clear H); intro _ w H
          refine OpsE.ev (Ev.assign rfl) rfl ?_
          refine OpsE.nil ?_
          refine RunsE.inBlock ?_
          exact next 0 _ _ (.of ⟨s.arm z, x, A, D, hA, hR.congr rfl rfl ⟨ok.1, ok.2, ok.3, ok.4, by simp only [St.arm]; omega⟩, hn, Nat.le_succ_of_le hq, H.dropMid⟩) ⟨rfl, rfl, rfl, rfl, rfl, rfl, rfl, trivial⟩
      by_cases k6 : k = 6
      ·
        repeat (first | refine RunsE.seq ?_ | refine RunsE.skip ?_ | refine RunsE.block ?_ | refine RunsE.inBlock ?_ | refine RunsE.yes rfl ?_ | refine RunsE.no rfl ?_ | refine RunsE.exit rfl ?_)
        refine RunsE.region ?_
        refine OpsE.ev (Ev.eql (r := false) rfl rfl (beq_eq_false_iff_ne.2 (by omega))) rfl ?_
        refine OpsE.ev (Ev.assign rfl) rfl ?_
        refine OpsE.nil ?_
        repeat (first | refine RunsE.seq ?_ | refine RunsE.skip ?_ | refine RunsE.block ?_ | refine RunsE.inBlock ?_ | refine RunsE.yes rfl ?_ | refine RunsE.no rfl ?_ | refine RunsE.exit rfl ?_)
        refine RunsE.region ?_
        refine OpsE.ev (Ev.eql (r := false) rfl rfl (beq_eq_false_iff_ne.2 (by omega))) rfl ?_
        refine OpsE.ev (Ev.assign rfl) rfl ?_
        refine OpsE.nil ?_
        repeat (first | refine RunsE.seq ?_ | refine RunsE.skip ?_ | refine RunsE.block ?_ | refine RunsE.inBlock ?_ | refine RunsE.yes rfl ?_ | refine RunsE.no rfl ?_ | refine RunsE.exit rfl ?_)
        refine RunsE.region ?_
        refine OpsE.ev (Ev.eql (r := false) rfl rfl (beq_eq_false_iff_ne.2 (by omega))) rfl ?_
        refine OpsE.ev (Ev.assign rfl) rfl ?_
        refine OpsE.nil ?_
        repeat (first | refine RunsE.seq ?_ | refine RunsE.skip ?_ | refine RunsE.block ?_ | refine RunsE.inBlock ?_ | refine RunsE.yes rfl ?_ | refine RunsE.no rfl ?_ | refine RunsE.exit rfl ?_)
        refine RunsE.region ?_
        refine OpsE.ev (Ev.eql (r := true) rfl rfl (beq_iff_eq.2 (by omega))) rfl ?_
        refine OpsE.ev (Ev.assign rfl) rfl ?_
        refine OpsE.nil ?_
        repeat (first | refine RunsE.seq ?_ | refine RunsE.skip ?_ | refine RunsE.block ?_ | refine RunsE.inBlock ?_ | refine RunsE.yes rfl ?_ | refine RunsE.no rfl ?_ | refine RunsE.exit rfl ?_)
        refine RunsE.region ?_
        refine OpsE.ev (Ev.move rfl) rfl ?_
        refine OpsE.ev (Ev.fieldAddr (o := 4) rfl (by kernel_rfl)) rfl ?_
        refine OpsE.ev (Ev.load H rfl (by kernel_rfl) (Rd.right (Rd.mk m0 rfl))) rfl ?_
        refine OpsE.ex (Ex.call rfl Tryd.call20 (own_spec a.keep _ hkl w _ (Els.sub hkp (fun p hp => by simp [hp]) (fun _ _ h => h)) H)) rfl ?_; (try clear H); rintro vk w ⟨Bz, hkz, H⟩; replace H := H.swapL
        refine OpsE.ex (Ex.call rfl Tryd.call6 (start_spec s a.keep _ b A (by omega) (by omega) w _ hA (hkz.ints hkp.wf) H)) rfl ?_; (try clear H); rintro _ w ⟨A, rfl, hA, H⟩; replace H := H.dropIn
        refine OpsE.nil ?_
        obtain ⟨s', hs'⟩ : ∃ s', s' = s.start fun j : Nat => a.keep.contains (j : Int) := ⟨_, rfl⟩
        rw [← hs'] at hA
        repeat (first | refine RunsE.seq ?_ | refine RunsE.skip ?_ | refine RunsE.block ?_ | refine RunsE.inBlock ?_ | refine RunsE.yes rfl ?_ | refine RunsE.no rfl ?_ | refine RunsE.exit rfl ?_)
        refine RunsE.region ?_
        refine OpsE.ev (Ev.loadBlk (n := 4) (vs := refV s x) H rfl (by kernel_rfl) rfl (List.mem_append_right A m1)) rfl ?_
        refine OpsE.ev (Ev.fieldAddr (o := 4) rfl (by kernel_rfl)) rfl ?_
        refine OpsE.ev (Ev.load H rfl (by kernel_rfl) (Rd.right (Rd.mk m0 rfl))) rfl ?_
        refine OpsE.ex (Ex.call rfl Tryd.call21 (rstart_spec s x a.keep _ (by omega) (by omega) w _ (D ++ F) (fun y hy => List.mem_append_right _ (.tail _ (.tail _ hy))) hR (Els.sub hkp (fun p hp => by simp [hp]) (fun _ _ h => h)) H)) rfl ?_; (try clear H); rw [← hs']; rintro _ w ⟨B, x', rfl, hR, H⟩
        refine OpsE.exn (Ex.storeBlk (n := 4) (vs := refV s' x') H rfl rfl (by kernel_rfl) rfl (refV_one _ _) (Upd.skip (Upd.skip u1 A) B) rfl (Thaw.zero _ _)) ?_; (try clear H); intro _ w H
        refine OpsE.nil ?_
        refine RunsE.inBlock ?_
        exact next 0 _ _ (.of ⟨s', x', A, B ++ D, hA, by rw [List.append_assoc]; exact hR, by rw [hs', start_P]; exact hn, by rw [hs']; exact Nat.zero_le _, H.fin5⟩) ⟨rfl, rfl, rfl, rfl, rfl, rfl, rfl, trivial⟩
      ·
        repeat (first | refine RunsE.seq ?_ | refine RunsE.skip ?_ | refine RunsE.block ?_ | refine RunsE.inBlock ?_ | refine RunsE.yes rfl ?_ | refine RunsE.no rfl ?_ | refine RunsE.exit rfl ?_)
        refine RunsE.region ?_
        refine OpsE.ev (Ev.eql (r := false) rfl rfl (beq_eq_false_iff_ne.2 (by omega))) rfl ?_
        refine OpsE.ev (Ev.assign rfl) rfl ?_
        refine OpsE.nil ?_
        repeat (first | refine RunsE.seq ?_ | refine RunsE.skip ?_ | refine RunsE.block ?_ | refine RunsE.inBlock ?_ | refine RunsE.yes rfl ?_ | refine RunsE.no rfl ?_ | refine RunsE.exit rfl ?_)
        refine RunsE.region ?_
        refine OpsE.ev (Ev.eql (r := false) rfl rfl (beq_eq_false_iff_ne.2 (by omega))) rfl ?_
        refine OpsE.ev (Ev.assign rfl) rfl ?_
        refine OpsE.nil ?_
        repeat (first | refine RunsE.seq ?_ | refine RunsE.skip ?_ | refine RunsE.block ?_ | refine RunsE.inBlock ?_ | refine RunsE.yes rfl ?_ | refine RunsE.no rfl ?_ | refine RunsE.exit rfl ?_)
        refine RunsE.region ?_
        refine OpsE.ev (Ev.eql (r := false) rfl rfl (beq_eq_false_iff_ne.2 (by omega))) rfl ?_
        refine OpsE.ev (Ev.assign rfl) rfl ?_
        refine OpsE.nil ?_
        repeat (first | refine RunsE.seq ?_ | refine RunsE.skip ?_ | refine RunsE.block ?_ | refine RunsE.inBlock ?_ | refine RunsE.yes rfl ?_ | refine RunsE.no rfl ?_ | refine RunsE.exit rfl ?_)
        refine RunsE.region ?_
        refine OpsE.ev (Ev.eql (r := false) rfl rfl (beq_eq_false_iff_ne.2 (by omega))) rfl ?_
        refine OpsE.ev (Ev.assign rfl) rfl ?_
        refine OpsE.nil ?_
        repeat (first | refine RunsE.seq ?_ | refine RunsE.skip ?_ | refine RunsE.block ?_ | refine RunsE.inBlock ?_ | refine RunsE.yes rfl ?_ | refine RunsE.no rfl ?_ | refine RunsE.exit rfl ?_)
        refine RunsE.region ?_
        refine OpsE.ev (Ev.move rfl) rfl ?_
        refine OpsE.ev (Ev.fieldAddr (o := 1) rfl (by kernel_rfl)) rfl ?_
        refine OpsE.ev (Ev.load H rfl (by kernel_rfl) (Rd.right (Rd.mk m0 rfl))) rfl ?_
        refine OpsE.ev (Ev.fieldAddr (o := 3) rfl (by kernel_rfl)) rfl ?_
        refine OpsE.ev (Ev.load H rfl (by kernel_rfl) (Rd.right (Rd.mk m0 rfl))) rfl ?_
        refine OpsE.ex (Ex.call rfl Tryd.call8 (write_spec s a.page a.data _ b A (by omega) hdB w _ hA hdat.right.tail.tail H)) rfl ?_; (try clear H); rintro _ w ⟨A, rfl, hA, H⟩
        refine OpsE.ev (Ev.assign rfl) rfl ?_
        refine OpsE.nil ?_
        repeat (first | refine RunsE.seq ?_ | refine RunsE.skip ?_ | refine RunsE.block ?_ | refine RunsE.inBlock ?_ | refine RunsE.yes rfl ?_ | refine RunsE.no rfl ?_ | refine RunsE.exit rfl ?_)
        refine RunsE.region ?_
        refine OpsE.ev (Ev.loadBlk (n := 4) (vs := refV s x) H rfl (by kernel_rfl) rfl (List.mem_append_right A m1)) rfl ?_
        refine OpsE.ev (Ev.fieldAddr (o := 1) rfl (by kernel_rfl)) rfl ?_
        refine OpsE.ev (Ev.load H rfl (by kernel_rfl) (Rd.right (Rd.mk m0 rfl))) rfl ?_
        refine OpsE.ev (Ev.fieldAddr (o := 3) rfl (by kernel_rfl)) rfl ?_
        refine OpsE.ev (Ev.load H rfl (by kernel_rfl) (Rd.right (Rd.mk m0 rfl))) rfl ?_
        refine OpsE.ex (Ex.call rfl Tryd.call22 (rput_spec s a.page a.data _ x (by omega) hdB w _ (D ++ F) (fun y hy => List.mem_append_right _ (.tail _ (.tail _ hy))) hR hdat.right H)) rfl ?_; (try clear H); rintro _ w ⟨B, x', rfl, hR, H⟩
        refine OpsE.ev (Ev.move rfl) rfl ?_
        refine OpsE.ev (Ev.extract rfl rfl) rfl ?_
        refine OpsE.ev (Ev.extract rfl rfl) rfl ?_
        refine OpsE.exn (Ex.storeBlk (n := 4) (vs := refV (s.write a.page a.data).1 x') H rfl rfl (by kernel_rfl) rfl (refV_one _ _) (Upd.skip (Upd.skip u1 A) B) rfl (Thaw.zero _ _)) ?_; (try clear H); intro _ w H
        refine OpsE.ev (Ev.assign rfl) rfl ?_
        refine OpsE.nil ?_
        refine RunsE.inBlock ?_
        have hwp := write_P s a.page a.data
        exact next _ _ _ (.of ⟨(s.write a.page a.data).1, x', A, B ++ D, hA, by rw [List.append_assoc]; exact hR, by rw [hwp.1]; exact hn, by have := hwp.2; omega, H.fin5⟩) ⟨rfl, rfl, rfl, rfl, rfl, rfl, rfl, trivial⟩
    clear H hA hR hn hq hG s x A D
    rintro e w HP
    obtain ⟨s, x, A, D, hA, hR, hn, hq, H⟩ := HP.ex
    clear HP
    repeat (first | refine RunsE.seq ?_ | refine RunsE.skip ?_ | refine RunsE.block ?_ | refine RunsE.inBlock ?_ | refine RunsE.yes rfl ?_ | refine RunsE.no rfl ?_ | refine RunsE.exit rfl ?_)
    refine RunsE.drawS H [] (by kernel_rfl) ?_; (try clear H); intro w H
    refine OpsD.take 0 rfl (by kernel_rfl) (by first | exact H | exact H.drop | exact H.drop.drop | exact H.dropL | exact H.drop.dropL | exact H.dropL.dropL) (fun w H => Ev.move rfl) rfl ?_
    refine OpsD.take 2 rfl (by kernel_rfl) (by first | exact H | exact H.drop | exact H.drop.drop | exact H.dropL | exact H.drop.dropL | exact H.dropL.dropL) (fun w H => Ev.move rfl) rfl ?_
    refine OpsD.one 1 (by kernel_rfl) (StepD.ex rfl (Ex.call rfl Tryd.call7 (num_ev e w _ hE.right.tail.right H)) rfl ?_); (try clear H); rintro _ w ⟨rfl, H⟩; refine ⟨(by first | exact H | exact H.drop | exact H.drop.drop | exact H.dropL | exact H.drop.dropL | exact H.dropL.dropL), ?_⟩
    refine OpsD.take 3 rfl (by kernel_rfl) (by first | exact H | exact H.drop | exact H.drop.drop | exact H.dropL | exact H.drop.dropL | exact H.dropL.dropL) (fun w H => Ev.neq (r := false) rfl rfl (by simp)) rfl ?_
    refine OpsD.take 4 rfl (by kernel_rfl) (by first | exact H | exact H.drop | exact H.drop.drop | exact H.dropL | exact H.drop.dropL | exact H.dropL.dropL) (fun w H => Ev.move rfl) rfl ?_
    first | refine OpsD.takeYes 5 rfl (by kernel_rfl) rfl rfl H (fun w H => Ev.move rfl) rfl ?_ | refine OpsD.takeNo 5 rfl (by kernel_rfl) rfl rfl H rfl ?_ | refine OpsD.takeOff 5 rfl (by kernel_rfl) rfl rfl H rfl ?_
    first | refine OpsD.takeYes 7 rfl (by kernel_rfl) rfl rfl H (fun w H => Ev.fieldAddr (o := 1) rfl (by kernel_rfl)) rfl ?_ | refine OpsD.takeNo 7 rfl (by kernel_rfl) rfl rfl H rfl ?_ | refine OpsD.takeOff 7 rfl (by kernel_rfl) rfl rfl H rfl ?_
    first | refine OpsD.takeYes 8 rfl (by kernel_rfl) rfl rfl H (fun w H => Ev.load (v := .slice x.la s.Q.length x.lc) H rfl (by kernel_rfl) (Rd.right (Rd.mk m0 rfl))) rfl ?_ | refine OpsD.takeNo 8 rfl (by kernel_rfl) rfl rfl H rfl ?_ | refine OpsD.takeOff 8 rfl (by kernel_rfl) rfl rfl H rfl ?_
    first | refine OpsD.takeYes 9 rfl (by kernel_rfl) rfl rfl H (fun w H => Ev.lenSl (d := 74) rfl rfl (by kernel_rfl)) rfl ?_ | refine OpsD.takeNo 9 rfl (by kernel_rfl) rfl rfl H rfl ?_ | refine OpsD.takeOff 9 rfl (by kernel_rfl) rfl rfl H rfl ?_
    first | (refine OpsD.one 6 (by kernel_rfl) (StepD.exYes rfl rfl rfl (Ex.call rfl Tryd.call12 (loose_spec s b A w _ hA H)) rfl ?_); (try clear H); rintro _ w ⟨rfl, H⟩; refine ⟨(by first | exact H | exact H.drop | exact H.drop.drop | exact H.dropL | exact H.drop.dropL | exact H.dropL.dropL), ?_⟩) | refine OpsD.takeNo 6 rfl (by kernel_rfl) rfl rfl H rfl ?_ | refine OpsD.takeOff 6 rfl (by kernel_rfl) rfl rfl H rfl ?_
    first | refine OpsD.takeYes 10 rfl (by kernel_rfl) rfl rfl H (fun w H => Ev.neq (r := false) rfl rfl (by simp)) rfl ?_ | refine OpsD.takeNo 10 rfl (by kernel_rfl) rfl rfl H rfl ?_ | refine OpsD.takeOff 10 rfl (by kernel_rfl) rfl rfl H rfl ?_
    refine OpsD.take 11 rfl (by kernel_rfl) (by first | exact H | exact H.drop | exact H.drop.drop | exact H.dropL | exact H.drop.dropL | exact H.dropL.dropL) (fun w H => (by first | exact Ev.pickT rfl rfl | exact Ev.pickF rfl rfl)) rfl ?_
    refine OpsD.take 12 rfl (by kernel_rfl) (by first | exact H | exact H.drop | exact H.drop.drop | exact H.dropL | exact H.drop.dropL | exact H.dropL.dropL) (fun w H => Ev.move rfl) rfl ?_
    first | refine OpsD.takeYes 13 rfl (by kernel_rfl) rfl rfl H (fun w H => Ev.move rfl) rfl ?_ | refine OpsD.takeNo 13 rfl (by kernel_rfl) rfl rfl H rfl ?_ | refine OpsD.takeOff 13 rfl (by kernel_rfl) rfl rfl H rfl ?_
    first | refine OpsD.takeYes 15 rfl (by kernel_rfl) rfl rfl H (fun w H => Ev.fieldAddr (o := 3) rfl (by kernel_rfl)) rfl ?_ | refine OpsD.takeNo 15 rfl (by kernel_rfl) rfl rfl H rfl ?_ | refine OpsD.takeOff 15 rfl (by kernel_rfl) rfl rfl H rfl ?_
    first | refine OpsD.takeYes 16 rfl (by kernel_rfl) rfl rfl H (fun w H => Ev.load (v := .bool s.down) H rfl (by kernel_rfl) (Rd.right (Rd.mk m0 rfl))) rfl ?_ | refine OpsD.takeNo 16 rfl (by kernel_rfl) rfl rfl H rfl ?_ | refine OpsD.takeOff 16 rfl (by kernel_rfl) rfl rfl H rfl ?_
    first | (refine OpsD.one 14 (by kernel_rfl) (StepD.exYes rfl rfl rfl (Ex.call rfl Tryd.call13 (down_spec s b A w _ hA H)) rfl ?_); (try clear H); rintro _ w ⟨rfl, H⟩; refine ⟨(by first | exact H | exact H.drop | exact H.drop.drop | exact H.dropL | exact H.drop.dropL | exact H.dropL.dropL), ?_⟩) | refine OpsD.takeNo 14 rfl (by kernel_rfl) rfl rfl H rfl ?_ | refine OpsD.takeOff 14 rfl (by kernel_rfl) rfl rfl H rfl ?_
    first | refine OpsD.takeYes 17 rfl (by kernel_rfl) rfl rfl H (fun w H => Ev.boolNe (r := false) rfl rfl Tryd.underlying4 (by simp)) rfl ?_ | refine OpsD.takeNo 17 rfl (by kernel_rfl) rfl rfl H rfl ?_ | refine OpsD.takeOff 17 rfl (by kernel_rfl) rfl rfl H rfl ?_
    refine OpsD.take 18 rfl (by kernel_rfl) (by first | exact H | exact H.drop | exact H.drop.drop | exact H.dropL | exact H.drop.dropL | exact H.dropL.dropL) (fun w H => (by first | exact Ev.pickT rfl rfl | exact Ev.pickF rfl rfl)) rfl ?_
    refine OpsD.done (by kernel_rfl) ?_
    repeat refine RunsE.seq ?_
    refine RunsE.no rfl ?_
    refine RunsE.skip ?_
    refine RunsE.inBlock ?_
    repeat (first | refine RunsE.seq ?_ | refine RunsE.skip ?_ | refine RunsE.block ?_ | refine RunsE.inBlock ?_ | refine RunsE.yes rfl ?_ | refine RunsE.no rfl ?_ | refine RunsE.exit rfl ?_)
    refine RunsE.region ?_
    refine OpsE.ev (Ev.move rfl) rfl ?_
    refine OpsE.ev (Ev.add rfl rfl) rfl ?_
    refine OpsE.ev (Ev.assign rfl) rfl ?_
    refine OpsE.nil ?_
    exact nextL (i + 1) _ _ (by omega) ⟨by omega, .of ⟨s, x, A, D, hA, hR, hn, hq, H⟩⟩ ⟨rfl, rfl, rfl, rfl, rfl, trivial⟩
  clear HP x A D
  rintro _ w HP
  obtain ⟨s, x, A, D, hA, hR, hn, hq, H⟩ := HP.ex
  clear HP
  repeat (first | refine RunsE.seq ?_ | refine RunsE.skip ?_ | refine RunsE.block ?_ | refine RunsE.inBlock ?_ | refine RunsE.yes rfl ?_ | refine RunsE.no rfl ?_ | refine RunsE.exit rfl ?_)
  refine RunsE.region ?_
  refine OpsE.ev (Ev.assign rfl) rfl ?_
  refine OpsE.nil ?_
  repeat refine RunsE.seq ?_
  refine RunsE.join (fun _ : Unit => [(0, .int .i64 (n : Int)), (8, .pointer (some ⟨b, 0, none⟩))]) (fun _ w => SL w (A ++ ((b10, .cells (refV s x).toArray 41 (0, 0)) :: (D ++ F)))) (fun next => ?_) ?_
  · refine RunsE.block ?_
    refine RunsE.loop (fun i : Nat => [(0, .int .i64 (n : Int)), (8, .pointer (some ⟨b, 0, none⟩)), (10, .pointer (some ⟨b10, 0, none⟩)), (20, .int .i64 (i : Int))])
      (fun i w => i ≤ n ∧ SL w (A ++ ((b10, .cells (refV s x).toArray 41 (0, 0)) :: (D ++ F)))) (fun i => n - i) 0 ⟨rfl, rfl, rfl, rfl, trivial⟩ ⟨by omega, H⟩ ?_
    clear H
    rintro i w ⟨hi, H⟩ nextL
    by_cases h1 : i = n
    ·
      repeat (first | refine RunsE.seq ?_ | refine RunsE.skip ?_ | refine RunsE.block ?_ | refine RunsE.inBlock ?_ | refine RunsE.yes rfl ?_ | refine RunsE.no rfl ?_ | refine RunsE.exit rfl ?_)
      refine RunsE.region ?_
      refine OpsE.ev (Ev.move rfl) rfl ?_
      refine OpsE.ev (Ev.move rfl) rfl ?_
      refine OpsE.ev (Ev.lss (r := false) rfl rfl (decide_eq_false (by omega))) rfl ?_
      refine OpsE.nil ?_
      repeat refine RunsE.seq ?_
      refine RunsE.no rfl ?_
      refine RunsE.exit rfl ?_
      exact next () _ _ H ⟨rfl, rfl, trivial⟩
    clear next
    repeat (first | refine RunsE.seq ?_ | refine RunsE.skip ?_ | refine RunsE.block ?_ | refine RunsE.inBlock ?_ | refine RunsE.yes rfl ?_ | refine RunsE.no rfl ?_ | refine RunsE.exit rfl ?_)
    refine RunsE.region ?_
    refine OpsE.ev (Ev.move rfl) rfl ?_
    refine OpsE.ev (Ev.move rfl) rfl ?_
    refine OpsE.ev (Ev.lss (r := true) rfl rfl (decide_eq_true (by omega))) rfl ?_
    refine OpsE.nil ?_
    repeat (first | refine RunsE.seq ?_ | refine RunsE.skip ?_ | refine RunsE.block ?_ | refine RunsE.inBlock ?_ | refine RunsE.yes rfl ?_ | refine RunsE.no rfl ?_ | refine RunsE.exit rfl ?_)
    repeat (first | refine RunsE.seq ?_ | refine RunsE.skip ?_ | refine RunsE.block ?_ | refine RunsE.inBlock ?_ | refine RunsE.yes rfl ?_ | refine RunsE.no rfl ?_ | refine RunsE.exit rfl ?_)
    refine RunsE.region ?_
    refine OpsE.ev (Ev.move rfl) rfl ?_
    refine OpsE.ev (Ev.move rfl) rfl ?_
    refine OpsE.ex (Ex.call rfl Tryd.call5 (read_spec s (i : Int) b A (by omega) w _ hA H)) rfl ?_; (try clear H); rintro _ w ⟨v, B, rfl, hs, H⟩
    refine OpsE.ev (Ev.move rfl) rfl ?_
    refine OpsE.ev (Ev.extract rfl rfl) rfl ?_
    refine OpsE.ev (Ev.extract rfl rfl) rfl ?_
    refine OpsE.ev (Ev.assign rfl) rfl ?_
    refine OpsE.ev (Ev.assign rfl) rfl ?_
    refine OpsE.nil ?_
    repeat (first | refine RunsE.seq ?_ | refine RunsE.skip ?_ | refine RunsE.block ?_ | refine RunsE.inBlock ?_ | refine RunsE.yes rfl ?_ | refine RunsE.no rfl ?_ | refine RunsE.exit rfl ?_)
    refine RunsE.region ?_
    refine OpsE.ev (Ev.loadBlk (n := 4) (vs := refV s x) H rfl (by kernel_rfl) rfl (List.mem_append_right B (List.mem_append_right A m0))) rfl ?_
    refine OpsE.ev (Ev.move rfl) rfl ?_
    refine OpsE.ex (Ex.call rfl Tryd.call18 (rread_spec s (i : Int) x (by omega) w _ (D ++ F) (fun y hy => List.mem_append_right _ (List.mem_append_right _ (.tail _ hy))) hR H)) rfl ?_; (try clear H); rintro _ w ⟨u, rfl, hu, H⟩
    refine OpsE.ev (Ev.move rfl) rfl ?_
    refine OpsE.ev (Ev.extract rfl rfl) rfl ?_
    refine OpsE.ev (Ev.extract rfl rfl) rfl ?_
    refine OpsE.ev (Ev.assign rfl) rfl ?_
    refine OpsE.ev (Ev.assign rfl) rfl ?_
    refine OpsE.nil ?_
    repeat (first | refine RunsE.seq ?_ | refine RunsE.skip ?_ | refine RunsE.block ?_ | refine RunsE.inBlock ?_ | refine RunsE.yes rfl ?_ | refine RunsE.no rfl ?_ | refine RunsE.exit rfl ?_)
    refine RunsE.region ?_
    refine OpsE.ev (Ev.move rfl) rfl ?_
    refine OpsE.ev (Ev.inpStr H rfl hs.inp Tryd.underlying24 Tryd.underlying5 Tryd.underlying9) rfl ?_
    refine OpsE.ev (Ev.move rfl) rfl ?_
    refine OpsE.ev (Ev.inpStr H rfl hu.tail.right.right Tryd.underlying24 Tryd.underlying5 Tryd.underlying9) rfl ?_
    refine OpsE.ev (Ev.strNeBF rfl rfl) rfl ?_
    refine OpsE.ev (Ev.move rfl) rfl ?_
    first | (refine OpsE.yes rfl rfl ?_; refine OpsE.ev (Ev.move rfl) rfl ?_) | refine OpsE.no rfl rfl rfl ?_ | refine OpsE.off rfl rfl rfl ?_
    first | (refine OpsE.yes rfl rfl ?_; refine OpsE.ex (Ex.call rfl Tryd.call7 (num_ev _ w _ hE.right.tail.right.right H)) rfl ?_; (try clear H); rintro _ w ⟨rfl, H⟩) | refine OpsE.no rfl rfl rfl ?_ | refine OpsE.off rfl rfl rfl ?_
    first | (refine OpsE.yes rfl rfl ?_; refine OpsE.ev (Ev.move rfl) rfl ?_) | refine OpsE.no rfl rfl rfl ?_ | refine OpsE.off rfl rfl rfl ?_
    first | (refine OpsE.yes rfl rfl ?_; refine OpsE.ev (Ev.neq (r := false) rfl rfl (by simp)) rfl ?_) | refine OpsE.no rfl rfl rfl ?_ | refine OpsE.off rfl rfl rfl ?_
    refine OpsE.ev ((by first | exact Ev.pickT rfl rfl | exact Ev.pickF rfl rfl)) rfl ?_
    refine OpsE.nil ?_
    repeat (first | refine RunsE.seq ?_ | refine RunsE.skip ?_ | refine RunsE.block ?_ | refine RunsE.inBlock ?_ | refine RunsE.yes rfl ?_ | refine RunsE.no rfl ?_ | refine RunsE.exit rfl ?_)
    refine RunsE.region ?_
    refine OpsE.ev (Ev.move rfl) rfl ?_
    refine OpsE.ev (Ev.add rfl rfl) rfl ?_
    refine OpsE.ev (Ev.assign rfl) rfl ?_
    refine OpsE.nil ?_
    exact nextL (i + 1) _ _ (by omega) ⟨by omega, H.dropL⟩ ⟨rfl, rfl, rfl, rfl, trivial⟩
  clear H
  rintro _ w H
  repeat (first | refine RunsE.seq ?_ | refine RunsE.skip ?_ | refine RunsE.block ?_ | refine RunsE.inBlock ?_ | refine RunsE.yes rfl ?_ | refine RunsE.no rfl ?_ | refine RunsE.exit rfl ?_)
  refine RunsE.region ?_
  refine OpsE.ev (Ev.move rfl) rfl ?_
  refine OpsE.ex (Ex.call rfl Tryd.call11 (pages_spec s b A w _ hA H)) rfl ?_; (try clear H); rw [hn]; rintro _ w ⟨rfl, H⟩
  refine OpsE.ev (Ev.move rfl) rfl ?_
  refine OpsE.ev (Ev.eql (r := true) rfl rfl (by simp)) rfl ?_
  refine OpsE.ev (Ev.move rfl) rfl ?_
  first | (refine OpsE.yes rfl rfl ?_; refine OpsE.ex (Ex.call rfl Tryd.call16 (sure_spec w _ H)) rfl ?_; (try clear H); rintro _ w ⟨rfl, H⟩) | refine OpsE.no rfl rfl rfl ?_ | refine OpsE.off rfl rfl rfl ?_
  refine OpsE.ev ((by first | exact Ev.pickT rfl rfl | exact Ev.pickF rfl rfl)) rfl ?_
  refine OpsE.ev (Ev.assign rfl) rfl ?_
  refine OpsE.nil ?_
  repeat (first | refine RunsE.seq ?_ | refine RunsE.skip ?_ | refine RunsE.block ?_ | refine RunsE.inBlock ?_ | refine RunsE.yes rfl ?_ | refine RunsE.no rfl ?_ | refine RunsE.exit rfl ?_)
  exact RunsE.ret1 Tryd.func3 rfl rfl ⟨rfl, H.dropL.drop.dropL⟩

end Go.Proofs.YtoiehgiokfnmkaaDoor
