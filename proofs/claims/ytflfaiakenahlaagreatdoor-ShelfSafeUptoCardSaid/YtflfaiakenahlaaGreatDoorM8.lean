/-
  The proof's parts, in one file: ShX, ShY, ShZ.
-/
import Derived.Test.YtflfaiakenahlaaGreatDoorM7
import Derived.Test.YtflfaiakenahlaaGreatDoorM2

section
/-
  The shelf, walked: Open.
-/
namespace Go.Proofs.YtflfaiakenahlaaGreatDoor.V

theorem lastW_sz {Q : List (Nat × List UInt8)} {p : Nat} (h : ∀ q ∈ Q, q.2.length ≤ 4096) : ∀ k b, k ≤ Q.length → lastW Q p k = some b → b.length ≤ 4096
  | 0, _, _, hb => by cases hb
  | k + 1, b, hk, hb => by
    unfold lastW at hb
    split at hb
    · cases hb
      exact h _ (getD_mem (by omega))
    · exact lastW_sz h k b (by omega) hb

theorem page_sz {s : St} (h : s.Ok) (p : Nat) : (s.page p).length ≤ 4096 := by
  unfold St.page
  cases hl : lastW s.Q p s.Q.length with
  | some b => exact lastW_sz h.qsz _ b (Nat.le_refl _) hl
  | none =>
    simp only [Option.getD_none]
    by_cases hp : p < s.P.length
    · exact h.psz _ (getD_mem hp)
    · rw [List.getD_eq_getElem?_getD, List.getElem?_eq_none (by omega)]
      simp

end Go.Proofs.YtflfaiakenahlaaGreatDoor.V
namespace Go.Proofs.YtflfaiakenahlaaGreatDoor
open Go.Proofs.YtflfaiakenahlaaGreatDoor.V

theorem HoldS.ok {b : Nat} {s : St} {A : List (Nat × Obj)} (h : HoldS b s A) : s.Ok := by
  cases h with
  | mk rb pv qv ql Bq D hp hq hQ ok => exact ok

theorem may_spec [Strm] (fr count : Int) (b1 : -9223372036854775808 ≤ fr) (b2 : fr ≤ 9223372036854775807) (st : St) (p : Nat) (A : List (Nat × Obj)) (w : World) (F : List (Nat × Obj)) (hA : HoldS p st A) (H : SL w (A ++ F)) :
    Does Tryz.prog 33 #[.agg #[.int .i64 fr, .int .i64 count], .pointer (some ⟨p, 0, none⟩)] w fun r w' => r = .bool (decide (0 ≤ fr ∧ 2 ≤ count ∧ count ≤ 1024 ∧ fr ≤ st.P.length ∧ count ≤ st.P.length - fr)) ∧ SL w' (A ++ F) := by
  have hP := hA.ok.pages
  refine Does.intro (args := [_, _]) (e := [(0, _), (1, _)]) Tryz.func33 rfl Tryz.ntmps33 rfl rfl ?_
  repeat (first | refine .seq ?_ | refine .skip ?_ | refine .block ?_ | refine .inBlock ?_ | refine .yes rfl ?_ | refine .no rfl ?_ | refine .exit rfl ?_)
  repeat (first | refine .seq ?_ | refine .skip ?_ | refine .block ?_ | refine .inBlock ?_ | refine .yes rfl ?_ | refine .no rfl ?_ | refine .exit rfl ?_)
  refine RunsE.region ?_
  refine OpsE.ex (Ex.box H rfl) rfl ?_; (try clear H); rintro _ w ⟨b2, rfl, H⟩; simp only [Value.cells] at H
  refine OpsE.ev (Ev.assign rfl) rfl ?_
  refine OpsE.nil ?_
  by_cases h1 : 0 ≤ fr
  · by_cases h2 : 2 ≤ count
    · by_cases h3 : count ≤ 1024
      · by_cases h4 : fr ≤ st.P.length
        · by_cases h5 : count ≤ st.P.length - fr
          ·
            repeat (first | refine .seq ?_ | refine .skip ?_ | refine .block ?_ | refine .inBlock ?_ | refine .yes rfl ?_ | refine .no rfl ?_ | refine .exit rfl ?_)
            refine RunsE.drawS H [] (by kernel_rfl) ?_; (try clear H); intro w H
            refine OpsD.take 0 rfl (by kernel_rfl) H (fun w H => Ev.fieldAddr (o := 0) rfl (by kernel_rfl)) rfl ?_
            refine OpsD.take 1 rfl (by kernel_rfl) H (fun w H => Ev.load H rfl (by kernel_rfl) (by first | exact Rd.mk m0 rfl | exact Rd.mk m1 rfl | exact Rd.mk m2 rfl | exact Rd.mk m3 rfl | assumption)) rfl ?_
            refine OpsD.take 2 rfl (by kernel_rfl) H (fun w H => Ev.geq rfl rfl) rfl ?_
            refine OpsD.take 3 rfl (by kernel_rfl) H (fun w H => Ev.move rfl) rfl ?_
            first | refine OpsD.takeYes 4 rfl (by kernel_rfl) rfl rfl H (fun w H => Ev.fieldAddr (o := 1) rfl (by kernel_rfl)) rfl ?_ | refine OpsD.takeNo 4 rfl (by kernel_rfl) rfl rfl H rfl ?_ | refine OpsD.takeOff 4 rfl (by kernel_rfl) rfl rfl H rfl ?_
            first | refine OpsD.takeYes 5 rfl (by kernel_rfl) rfl rfl H (fun w H => Ev.load H rfl (by kernel_rfl) (by first | exact Rd.mk m0 rfl | exact Rd.mk m1 rfl | exact Rd.mk m2 rfl | exact Rd.mk m3 rfl | assumption)) rfl ?_ | refine OpsD.takeNo 5 rfl (by kernel_rfl) rfl rfl H rfl ?_ | refine OpsD.takeOff 5 rfl (by kernel_rfl) rfl rfl H rfl ?_
            first | refine OpsD.takeYes 6 rfl (by kernel_rfl) rfl rfl H (fun w H => Ev.geq rfl rfl) rfl ?_ | refine OpsD.takeNo 6 rfl (by kernel_rfl) rfl rfl H rfl ?_ | refine OpsD.takeOff 6 rfl (by kernel_rfl) rfl rfl H rfl ?_
            refine OpsD.take 7 rfl (by kernel_rfl) H (fun w H => (by first | exact Ev.pickT rfl rfl | exact Ev.pickF rfl rfl)) rfl ?_
            refine OpsD.take 8 rfl (by kernel_rfl) H (fun w H => Ev.move rfl) rfl ?_
            first | refine OpsD.takeYes 9 rfl (by kernel_rfl) rfl rfl H (fun w H => Ev.fieldAddr (o := 1) rfl (by kernel_rfl)) rfl ?_ | refine OpsD.takeNo 9 rfl (by kernel_rfl) rfl rfl H rfl ?_ | refine OpsD.takeOff 9 rfl (by kernel_rfl) rfl rfl H rfl ?_
            first | refine OpsD.takeYes 10 rfl (by kernel_rfl) rfl rfl H (fun w H => Ev.load H rfl (by kernel_rfl) (by first | exact Rd.mk m0 rfl | exact Rd.mk m1 rfl | exact Rd.mk m2 rfl | exact Rd.mk m3 rfl | assumption)) rfl ?_ | refine OpsD.takeNo 10 rfl (by kernel_rfl) rfl rfl H rfl ?_ | refine OpsD.takeOff 10 rfl (by kernel_rfl) rfl rfl H rfl ?_
            first | refine OpsD.takeYes 11 rfl (by kernel_rfl) rfl rfl H (fun w H => Ev.leq rfl rfl) rfl ?_ | refine OpsD.takeNo 11 rfl (by kernel_rfl) rfl rfl H rfl ?_ | refine OpsD.takeOff 11 rfl (by kernel_rfl) rfl rfl H rfl ?_
            refine OpsD.take 12 rfl (by kernel_rfl) H (fun w H => (by first | exact Ev.pickT rfl rfl | exact Ev.pickF rfl rfl)) rfl ?_
            refine OpsD.take 13 rfl (by kernel_rfl) H (fun w H => Ev.move rfl) rfl ?_
            first | refine OpsD.takeYes 14 rfl (by kernel_rfl) rfl rfl H (fun w H => Ev.fieldAddr (o := 0) rfl (by kernel_rfl)) rfl ?_ | refine OpsD.takeNo 14 rfl (by kernel_rfl) rfl rfl H rfl ?_ | refine OpsD.takeOff 14 rfl (by kernel_rfl) rfl rfl H rfl ?_
            first | refine OpsD.takeYes 15 rfl (by kernel_rfl) rfl rfl H (fun w H => Ev.load H rfl (by kernel_rfl) (by first | exact Rd.mk m0 rfl | exact Rd.mk m1 rfl | exact Rd.mk m2 rfl | exact Rd.mk m3 rfl | assumption)) rfl ?_ | refine OpsD.takeNo 15 rfl (by kernel_rfl) rfl rfl H rfl ?_ | refine OpsD.takeOff 15 rfl (by kernel_rfl) rfl rfl H rfl ?_
            first | refine OpsD.takeYes 16 rfl (by kernel_rfl) rfl rfl H (fun w H => Ev.move rfl) rfl ?_ | refine OpsD.takeNo 16 rfl (by kernel_rfl) rfl rfl H rfl ?_ | refine OpsD.takeOff 16 rfl (by kernel_rfl) rfl rfl H rfl ?_
            first | (refine OpsD.one 17 (by kernel_rfl) (StepD.exYes rfl rfl rfl (Ex.call rfl Tryz.call66 (pages_spec st p A w _ hA H.headL)) rfl ?_); (try clear H); rintro _ w ⟨rfl, H⟩; replace H := H.unmid; refine ⟨(by first | exact H | exact H.drop | exact H.drop.drop | exact H.dropL | exact H.drop.dropL | exact H.dropL.drop | exact H.dropL.dropL | exact H.dropMid), ?_⟩) | refine OpsD.takeNo 17 rfl (by kernel_rfl) rfl rfl H rfl ?_ | refine OpsD.takeOff 17 rfl (by kernel_rfl) rfl rfl H rfl ?_
            first | refine OpsD.takeYes 18 rfl (by kernel_rfl) rfl rfl (by first | exact H | exact H.drop | exact H.drop.drop | exact H.dropL | exact H.drop.dropL | exact H.dropL.drop | exact H.dropL.dropL | exact H.dropMid) (fun w H => Ev.leq rfl rfl) rfl ?_ | refine OpsD.takeNo 18 rfl (by kernel_rfl) rfl rfl (by first | exact H | exact H.drop | exact H.drop.drop | exact H.dropL | exact H.drop.dropL | exact H.dropL.drop | exact H.dropL.dropL | exact H.dropMid) rfl ?_ | refine OpsD.takeOff 18 rfl (by kernel_rfl) rfl rfl (by first | exact H | exact H.drop | exact H.drop.drop | exact H.dropL | exact H.drop.dropL | exact H.dropL.drop | exact H.dropL.dropL | exact H.dropMid) rfl ?_
            refine OpsD.take 19 rfl (by kernel_rfl) (by first | exact H | exact H.drop | exact H.drop.drop | exact H.dropL | exact H.drop.dropL | exact H.dropL.drop | exact H.dropL.dropL | exact H.dropMid) (fun w H => (by first | exact Ev.pickT rfl rfl | exact Ev.pickF rfl rfl)) rfl ?_
            refine OpsD.take 20 rfl (by kernel_rfl) (by first | exact H | exact H.drop | exact H.drop.drop | exact H.dropL | exact H.drop.dropL | exact H.dropL.drop | exact H.dropL.dropL | exact H.dropMid) (fun w H => Ev.move rfl) rfl ?_
            first | refine OpsD.takeYes 21 rfl (by kernel_rfl) rfl rfl (by first | exact H | exact H.drop | exact H.drop.drop | exact H.dropL | exact H.drop.dropL | exact H.dropL.drop | exact H.dropL.dropL | exact H.dropMid) (fun w H => Ev.fieldAddr (o := 1) rfl (by kernel_rfl)) rfl ?_ | refine OpsD.takeNo 21 rfl (by kernel_rfl) rfl rfl (by first | exact H | exact H.drop | exact H.drop.drop | exact H.dropL | exact H.drop.dropL | exact H.dropL.drop | exact H.dropL.dropL | exact H.dropMid) rfl ?_ | refine OpsD.takeOff 21 rfl (by kernel_rfl) rfl rfl (by first | exact H | exact H.drop | exact H.drop.drop | exact H.dropL | exact H.drop.dropL | exact H.dropL.drop | exact H.dropL.dropL | exact H.dropMid) rfl ?_
            first | refine OpsD.takeYes 22 rfl (by kernel_rfl) rfl rfl (by first | exact H | exact H.drop | exact H.drop.drop | exact H.dropL | exact H.drop.dropL | exact H.dropL.drop | exact H.dropL.dropL | exact H.dropMid) (fun w H => Ev.load H rfl (by kernel_rfl) (by first | exact Rd.mk m0 rfl | exact Rd.mk m1 rfl | exact Rd.mk m2 rfl | exact Rd.mk m3 rfl | assumption)) rfl ?_ | refine OpsD.takeNo 22 rfl (by kernel_rfl) rfl rfl (by first | exact H | exact H.drop | exact H.drop.drop | exact H.dropL | exact H.drop.dropL | exact H.dropL.drop | exact H.dropL.dropL | exact H.dropMid) rfl ?_ | refine OpsD.takeOff 22 rfl (by kernel_rfl) rfl rfl (by first | exact H | exact H.drop | exact H.drop.drop | exact H.dropL | exact H.drop.dropL | exact H.dropL.drop | exact H.dropL.dropL | exact H.dropMid) rfl ?_
            first | refine OpsD.takeYes 23 rfl (by kernel_rfl) rfl rfl (by first | exact H | exact H.drop | exact H.drop.drop | exact H.dropL | exact H.drop.dropL | exact H.dropL.drop | exact H.dropL.dropL | exact H.dropMid) (fun w H => Ev.move rfl) rfl ?_ | refine OpsD.takeNo 23 rfl (by kernel_rfl) rfl rfl (by first | exact H | exact H.drop | exact H.drop.drop | exact H.dropL | exact H.drop.dropL | exact H.dropL.drop | exact H.dropL.dropL | exact H.dropMid) rfl ?_ | refine OpsD.takeOff 23 rfl (by kernel_rfl) rfl rfl (by first | exact H | exact H.drop | exact H.drop.drop | exact H.dropL | exact H.drop.dropL | exact H.dropL.drop | exact H.dropL.dropL | exact H.dropMid) rfl ?_
            first | refine OpsD.takeYes 25 rfl (by kernel_rfl) rfl rfl (by first | exact H | exact H.drop | exact H.drop.drop | exact H.dropL | exact H.drop.dropL | exact H.dropL.drop | exact H.dropL.dropL | exact H.dropMid) (fun w H => Ev.fieldAddr (o := 0) rfl (by kernel_rfl)) rfl ?_ | refine OpsD.takeNo 25 rfl (by kernel_rfl) rfl rfl (by first | exact H | exact H.drop | exact H.drop.drop | exact H.dropL | exact H.drop.dropL | exact H.dropL.drop | exact H.dropL.dropL | exact H.dropMid) rfl ?_ | refine OpsD.takeOff 25 rfl (by kernel_rfl) rfl rfl (by first | exact H | exact H.drop | exact H.drop.drop | exact H.dropL | exact H.drop.dropL | exact H.dropL.drop | exact H.dropL.dropL | exact H.dropMid) rfl ?_
            first | refine OpsD.takeYes 26 rfl (by kernel_rfl) rfl rfl (by first | exact H | exact H.drop | exact H.drop.drop | exact H.dropL | exact H.drop.dropL | exact H.dropL.drop | exact H.dropL.dropL | exact H.dropMid) (fun w H => Ev.load H rfl (by kernel_rfl) (by first | exact Rd.mk m0 rfl | exact Rd.mk m1 rfl | exact Rd.mk m2 rfl | exact Rd.mk m3 rfl | assumption)) rfl ?_ | refine OpsD.takeNo 26 rfl (by kernel_rfl) rfl rfl (by first | exact H | exact H.drop | exact H.drop.drop | exact H.dropL | exact H.drop.dropL | exact H.dropL.drop | exact H.dropL.dropL | exact H.dropMid) rfl ?_ | refine OpsD.takeOff 26 rfl (by kernel_rfl) rfl rfl (by first | exact H | exact H.drop | exact H.drop.drop | exact H.dropL | exact H.drop.dropL | exact H.dropL.drop | exact H.dropL.dropL | exact H.dropMid) rfl ?_
            first | (refine OpsD.one 24 (by kernel_rfl) (StepD.exYes rfl rfl rfl (Ex.call rfl Tryz.call66 (pages_spec st p A w _ hA H.headL)) rfl ?_); (try clear H); rintro _ w ⟨rfl, H⟩; replace H := H.unmid; refine ⟨(by first | exact H | exact H.drop | exact H.drop.drop | exact H.dropL | exact H.drop.dropL | exact H.dropL.drop | exact H.dropL.dropL | exact H.dropMid), ?_⟩) | refine OpsD.takeNo 24 rfl (by kernel_rfl) rfl rfl (by first | exact H | exact H.drop | exact H.drop.drop | exact H.dropL | exact H.drop.dropL | exact H.dropL.drop | exact H.dropL.dropL | exact H.dropMid) rfl ?_ | refine OpsD.takeOff 24 rfl (by kernel_rfl) rfl rfl (by first | exact H | exact H.drop | exact H.drop.drop | exact H.dropL | exact H.drop.dropL | exact H.dropL.drop | exact H.dropL.dropL | exact H.dropMid) rfl ?_
            first | refine OpsD.takeYes 27 rfl (by kernel_rfl) rfl rfl (by first | exact H | exact H.drop | exact H.drop.drop | exact H.dropL | exact H.drop.dropL | exact H.dropL.drop | exact H.dropL.dropL | exact H.dropMid) (fun w H => Ev.sub rfl rfl) rfl ?_ | refine OpsD.takeNo 27 rfl (by kernel_rfl) rfl rfl (by first | exact H | exact H.drop | exact H.drop.drop | exact H.dropL | exact H.drop.dropL | exact H.dropL.drop | exact H.dropL.dropL | exact H.dropMid) rfl ?_ | refine OpsD.takeOff 27 rfl (by kernel_rfl) rfl rfl (by first | exact H | exact H.drop | exact H.drop.drop | exact H.dropL | exact H.drop.dropL | exact H.dropL.drop | exact H.dropL.dropL | exact H.dropMid) rfl ?_
            first | refine OpsD.takeYes 28 rfl (by kernel_rfl) rfl rfl (by first | exact H | exact H.drop | exact H.drop.drop | exact H.dropL | exact H.drop.dropL | exact H.dropL.drop | exact H.dropL.dropL | exact H.dropMid) (fun w H => Ev.leq rfl rfl) rfl ?_ | refine OpsD.takeNo 28 rfl (by kernel_rfl) rfl rfl (by first | exact H | exact H.drop | exact H.drop.drop | exact H.dropL | exact H.drop.dropL | exact H.dropL.drop | exact H.dropL.dropL | exact H.dropMid) rfl ?_ | refine OpsD.takeOff 28 rfl (by kernel_rfl) rfl rfl (by first | exact H | exact H.drop | exact H.drop.drop | exact H.dropL | exact H.drop.dropL | exact H.dropL.drop | exact H.dropL.dropL | exact H.dropMid) rfl ?_
            refine OpsD.take 29 rfl (by kernel_rfl) (by first | exact H | exact H.drop | exact H.drop.drop | exact H.dropL | exact H.drop.dropL | exact H.dropL.drop | exact H.dropL.dropL | exact H.dropMid) (fun w H => (by first | exact Ev.pickT rfl rfl | exact Ev.pickF rfl rfl)) rfl ?_
            refine OpsD.take 30 rfl (by kernel_rfl) (by first | exact H | exact H.drop | exact H.drop.drop | exact H.dropL | exact H.drop.dropL | exact H.dropL.drop | exact H.dropL.dropL | exact H.dropMid) (fun w H => Ev.assign rfl) rfl ?_
            refine OpsD.done (by kernel_rfl) ?_
            repeat (first | refine .seq ?_ | refine .skip ?_ | refine .block ?_ | refine .inBlock ?_ | refine .yes rfl ?_ | refine .no rfl ?_ | refine .exit rfl ?_)
            exact RunsE.ret1 Tryz.func33 rfl rfl ⟨by rw [decide_eq_true ⟨h1, h2, h3, h4, h5⟩], H.drop⟩
          ·
            repeat (first | refine .seq ?_ | refine .skip ?_ | refine .block ?_ | refine .inBlock ?_ | refine .yes rfl ?_ | refine .no rfl ?_ | refine .exit rfl ?_)
            refine RunsE.drawS H [] (by kernel_rfl) ?_; (try clear H); intro w H
            refine OpsD.take 0 rfl (by kernel_rfl) H (fun w H => Ev.fieldAddr (o := 0) rfl (by kernel_rfl)) rfl ?_
            refine OpsD.take 1 rfl (by kernel_rfl) H (fun w H => Ev.load H rfl (by kernel_rfl) (by first | exact Rd.mk m0 rfl | exact Rd.mk m1 rfl | exact Rd.mk m2 rfl | exact Rd.mk m3 rfl | assumption)) rfl ?_
            refine OpsD.take 2 rfl (by kernel_rfl) H (fun w H => Ev.geq rfl rfl) rfl ?_
            refine OpsD.take 3 rfl (by kernel_rfl) H (fun w H => Ev.move rfl) rfl ?_
            first | refine OpsD.takeYes 4 rfl (by kernel_rfl) rfl rfl H (fun w H => Ev.fieldAddr (o := 1) rfl (by kernel_rfl)) rfl ?_ | refine OpsD.takeNo 4 rfl (by kernel_rfl) rfl rfl H rfl ?_ | refine OpsD.takeOff 4 rfl (by kernel_rfl) rfl rfl H rfl ?_
            first | refine OpsD.takeYes 5 rfl (by kernel_rfl) rfl rfl H (fun w H => Ev.load H rfl (by kernel_rfl) (by first | exact Rd.mk m0 rfl | exact Rd.mk m1 rfl | exact Rd.mk m2 rfl | exact Rd.mk m3 rfl | assumption)) rfl ?_ | refine OpsD.takeNo 5 rfl (by kernel_rfl) rfl rfl H rfl ?_ | refine OpsD.takeOff 5 rfl (by kernel_rfl) rfl rfl H rfl ?_
            first | refine OpsD.takeYes 6 rfl (by kernel_rfl) rfl rfl H (fun w H => Ev.geq rfl rfl) rfl ?_ | refine OpsD.takeNo 6 rfl (by kernel_rfl) rfl rfl H rfl ?_ | refine OpsD.takeOff 6 rfl (by kernel_rfl) rfl rfl H rfl ?_
            refine OpsD.take 7 rfl (by kernel_rfl) H (fun w H => (by first | exact Ev.pickT rfl rfl | exact Ev.pickF rfl rfl)) rfl ?_
            refine OpsD.take 8 rfl (by kernel_rfl) H (fun w H => Ev.move rfl) rfl ?_
            first | refine OpsD.takeYes 9 rfl (by kernel_rfl) rfl rfl H (fun w H => Ev.fieldAddr (o := 1) rfl (by kernel_rfl)) rfl ?_ | refine OpsD.takeNo 9 rfl (by kernel_rfl) rfl rfl H rfl ?_ | refine OpsD.takeOff 9 rfl (by kernel_rfl) rfl rfl H rfl ?_
            first | refine OpsD.takeYes 10 rfl (by kernel_rfl) rfl rfl H (fun w H => Ev.load H rfl (by kernel_rfl) (by first | exact Rd.mk m0 rfl | exact Rd.mk m1 rfl | exact Rd.mk m2 rfl | exact Rd.mk m3 rfl | assumption)) rfl ?_ | refine OpsD.takeNo 10 rfl (by kernel_rfl) rfl rfl H rfl ?_ | refine OpsD.takeOff 10 rfl (by kernel_rfl) rfl rfl H rfl ?_
            first | refine OpsD.takeYes 11 rfl (by kernel_rfl) rfl rfl H (fun w H => Ev.leq rfl rfl) rfl ?_ | refine OpsD.takeNo 11 rfl (by kernel_rfl) rfl rfl H rfl ?_ | refine OpsD.takeOff 11 rfl (by kernel_rfl) rfl rfl H rfl ?_
            refine OpsD.take 12 rfl (by kernel_rfl) H (fun w H => (by first | exact Ev.pickT rfl rfl | exact Ev.pickF rfl rfl)) rfl ?_
            refine OpsD.take 13 rfl (by kernel_rfl) H (fun w H => Ev.move rfl) rfl ?_
            first | refine OpsD.takeYes 14 rfl (by kernel_rfl) rfl rfl H (fun w H => Ev.fieldAddr (o := 0) rfl (by kernel_rfl)) rfl ?_ | refine OpsD.takeNo 14 rfl (by kernel_rfl) rfl rfl H rfl ?_ | refine OpsD.takeOff 14 rfl (by kernel_rfl) rfl rfl H rfl ?_
            first | refine OpsD.takeYes 15 rfl (by kernel_rfl) rfl rfl H (fun w H => Ev.load H rfl (by kernel_rfl) (by first | exact Rd.mk m0 rfl | exact Rd.mk m1 rfl | exact Rd.mk m2 rfl | exact Rd.mk m3 rfl | assumption)) rfl ?_ | refine OpsD.takeNo 15 rfl (by kernel_rfl) rfl rfl H rfl ?_ | refine OpsD.takeOff 15 rfl (by kernel_rfl) rfl rfl H rfl ?_
            first | refine OpsD.takeYes 16 rfl (by kernel_rfl) rfl rfl H (fun w H => Ev.move rfl) rfl ?_ | refine OpsD.takeNo 16 rfl (by kernel_rfl) rfl rfl H rfl ?_ | refine OpsD.takeOff 16 rfl (by kernel_rfl) rfl rfl H rfl ?_
            first | (refine OpsD.one 17 (by kernel_rfl) (StepD.exYes rfl rfl rfl (Ex.call rfl Tryz.call66 (pages_spec st p A w _ hA H.headL)) rfl ?_); (try clear H); rintro _ w ⟨rfl, H⟩; replace H := H.unmid; refine ⟨(by first | exact H | exact H.drop | exact H.drop.drop | exact H.dropL | exact H.drop.dropL | exact H.dropL.drop | exact H.dropL.dropL | exact H.dropMid), ?_⟩) | refine OpsD.takeNo 17 rfl (by kernel_rfl) rfl rfl H rfl ?_ | refine OpsD.takeOff 17 rfl (by kernel_rfl) rfl rfl H rfl ?_
            first | refine OpsD.takeYes 18 rfl (by kernel_rfl) rfl rfl (by first | exact H | exact H.drop | exact H.drop.drop | exact H.dropL | exact H.drop.dropL | exact H.dropL.drop | exact H.dropL.dropL | exact H.dropMid) (fun w H => Ev.leq rfl rfl) rfl ?_ | refine OpsD.takeNo 18 rfl (by kernel_rfl) rfl rfl (by first | exact H | exact H.drop | exact H.drop.drop | exact H.dropL | exact H.drop.dropL | exact H.dropL.drop | exact H.dropL.dropL | exact H.dropMid) rfl ?_ | refine OpsD.takeOff 18 rfl (by kernel_rfl) rfl rfl (by first | exact H | exact H.drop | exact H.drop.drop | exact H.dropL | exact H.drop.dropL | exact H.dropL.drop | exact H.dropL.dropL | exact H.dropMid) rfl ?_
            refine OpsD.take 19 rfl (by kernel_rfl) (by first | exact H | exact H.drop | exact H.drop.drop | exact H.dropL | exact H.drop.dropL | exact H.dropL.drop | exact H.dropL.dropL | exact H.dropMid) (fun w H => (by first | exact Ev.pickT rfl rfl | exact Ev.pickF rfl rfl)) rfl ?_
            refine OpsD.take 20 rfl (by kernel_rfl) (by first | exact H | exact H.drop | exact H.drop.drop | exact H.dropL | exact H.drop.dropL | exact H.dropL.drop | exact H.dropL.dropL | exact H.dropMid) (fun w H => Ev.move rfl) rfl ?_
            first | refine OpsD.takeYes 21 rfl (by kernel_rfl) rfl rfl (by first | exact H | exact H.drop | exact H.drop.drop | exact H.dropL | exact H.drop.dropL | exact H.dropL.drop | exact H.dropL.dropL | exact H.dropMid) (fun w H => Ev.fieldAddr (o := 1) rfl (by kernel_rfl)) rfl ?_ | refine OpsD.takeNo 21 rfl (by kernel_rfl) rfl rfl (by first | exact H | exact H.drop | exact H.drop.drop | exact H.dropL | exact H.drop.dropL | exact H.dropL.drop | exact H.dropL.dropL | exact H.dropMid) rfl ?_ | refine OpsD.takeOff 21 rfl (by kernel_rfl) rfl rfl (by first | exact H | exact H.drop | exact H.drop.drop | exact H.dropL | exact H.drop.dropL | exact H.dropL.drop | exact H.dropL.dropL | exact H.dropMid) rfl ?_
            first | refine OpsD.takeYes 22 rfl (by kernel_rfl) rfl rfl (by first | exact H | exact H.drop | exact H.drop.drop | exact H.dropL | exact H.drop.dropL | exact H.dropL.drop | exact H.dropL.dropL | exact H.dropMid) (fun w H => Ev.load H rfl (by kernel_rfl) (by first | exact Rd.mk m0 rfl | exact Rd.mk m1 rfl | exact Rd.mk m2 rfl | exact Rd.mk m3 rfl | assumption)) rfl ?_ | refine OpsD.takeNo 22 rfl (by kernel_rfl) rfl rfl (by first | exact H | exact H.drop | exact H.drop.drop | exact H.dropL | exact H.drop.dropL | exact H.dropL.drop | exact H.dropL.dropL | exact H.dropMid) rfl ?_ | refine OpsD.takeOff 22 rfl (by kernel_rfl) rfl rfl (by first | exact H | exact H.drop | exact H.drop.drop | exact H.dropL | exact H.drop.dropL | exact H.dropL.drop | exact H.dropL.dropL | exact H.dropMid) rfl ?_
            first | refine OpsD.takeYes 23 rfl (by kernel_rfl) rfl rfl (by first | exact H | exact H.drop | exact H.drop.drop | exact H.dropL | exact H.drop.dropL | exact H.dropL.drop | exact H.dropL.dropL | exact H.dropMid) (fun w H => Ev.move rfl) rfl ?_ | refine OpsD.takeNo 23 rfl (by kernel_rfl) rfl rfl (by first | exact H | exact H.drop | exact H.drop.drop | exact H.dropL | exact H.drop.dropL | exact H.dropL.drop | exact H.dropL.dropL | exact H.dropMid) rfl ?_ | refine OpsD.takeOff 23 rfl (by kernel_rfl) rfl rfl (by first | exact H | exact H.drop | exact H.drop.drop | exact H.dropL | exact H.drop.dropL | exact H.dropL.drop | exact H.dropL.dropL | exact H.dropMid) rfl ?_
            first | refine OpsD.takeYes 25 rfl (by kernel_rfl) rfl rfl (by first | exact H | exact H.drop | exact H.drop.drop | exact H.dropL | exact H.drop.dropL | exact H.dropL.drop | exact H.dropL.dropL | exact H.dropMid) (fun w H => Ev.fieldAddr (o := 0) rfl (by kernel_rfl)) rfl ?_ | refine OpsD.takeNo 25 rfl (by kernel_rfl) rfl rfl (by first | exact H | exact H.drop | exact H.drop.drop | exact H.dropL | exact H.drop.dropL | exact H.dropL.drop | exact H.dropL.dropL | exact H.dropMid) rfl ?_ | refine OpsD.takeOff 25 rfl (by kernel_rfl) rfl rfl (by first | exact H | exact H.drop | exact H.drop.drop | exact H.dropL | exact H.drop.dropL | exact H.dropL.drop | exact H.dropL.dropL | exact H.dropMid) rfl ?_
            first | refine OpsD.takeYes 26 rfl (by kernel_rfl) rfl rfl (by first | exact H | exact H.drop | exact H.drop.drop | exact H.dropL | exact H.drop.dropL | exact H.dropL.drop | exact H.dropL.dropL | exact H.dropMid) (fun w H => Ev.load H rfl (by kernel_rfl) (by first | exact Rd.mk m0 rfl | exact Rd.mk m1 rfl | exact Rd.mk m2 rfl | exact Rd.mk m3 rfl | assumption)) rfl ?_ | refine OpsD.takeNo 26 rfl (by kernel_rfl) rfl rfl (by first | exact H | exact H.drop | exact H.drop.drop | exact H.dropL | exact H.drop.dropL | exact H.dropL.drop | exact H.dropL.dropL | exact H.dropMid) rfl ?_ | refine OpsD.takeOff 26 rfl (by kernel_rfl) rfl rfl (by first | exact H | exact H.drop | exact H.drop.drop | exact H.dropL | exact H.drop.dropL | exact H.dropL.drop | exact H.dropL.dropL | exact H.dropMid) rfl ?_
            first | (refine OpsD.one 24 (by kernel_rfl) (StepD.exYes rfl rfl rfl (Ex.call rfl Tryz.call66 (pages_spec st p A w _ hA H.headL)) rfl ?_); (try clear H); rintro _ w ⟨rfl, H⟩; replace H := H.unmid; refine ⟨(by first | exact H | exact H.drop | exact H.drop.drop | exact H.dropL | exact H.drop.dropL | exact H.dropL.drop | exact H.dropL.dropL | exact H.dropMid), ?_⟩) | refine OpsD.takeNo 24 rfl (by kernel_rfl) rfl rfl (by first | exact H | exact H.drop | exact H.drop.drop | exact H.dropL | exact H.drop.dropL | exact H.dropL.drop | exact H.dropL.dropL | exact H.dropMid) rfl ?_ | refine OpsD.takeOff 24 rfl (by kernel_rfl) rfl rfl (by first | exact H | exact H.drop | exact H.drop.drop | exact H.dropL | exact H.drop.dropL | exact H.dropL.drop | exact H.dropL.dropL | exact H.dropMid) rfl ?_
            first | refine OpsD.takeYes 27 rfl (by kernel_rfl) rfl rfl (by first | exact H | exact H.drop | exact H.drop.drop | exact H.dropL | exact H.drop.dropL | exact H.dropL.drop | exact H.dropL.dropL | exact H.dropMid) (fun w H => Ev.sub rfl rfl) rfl ?_ | refine OpsD.takeNo 27 rfl (by kernel_rfl) rfl rfl (by first | exact H | exact H.drop | exact H.drop.drop | exact H.dropL | exact H.drop.dropL | exact H.dropL.drop | exact H.dropL.dropL | exact H.dropMid) rfl ?_ | refine OpsD.takeOff 27 rfl (by kernel_rfl) rfl rfl (by first | exact H | exact H.drop | exact H.drop.drop | exact H.dropL | exact H.drop.dropL | exact H.dropL.drop | exact H.dropL.dropL | exact H.dropMid) rfl ?_
            first | refine OpsD.takeYes 28 rfl (by kernel_rfl) rfl rfl (by first | exact H | exact H.drop | exact H.drop.drop | exact H.dropL | exact H.drop.dropL | exact H.dropL.drop | exact H.dropL.dropL | exact H.dropMid) (fun w H => Ev.leq rfl rfl) rfl ?_ | refine OpsD.takeNo 28 rfl (by kernel_rfl) rfl rfl (by first | exact H | exact H.drop | exact H.drop.drop | exact H.dropL | exact H.drop.dropL | exact H.dropL.drop | exact H.dropL.dropL | exact H.dropMid) rfl ?_ | refine OpsD.takeOff 28 rfl (by kernel_rfl) rfl rfl (by first | exact H | exact H.drop | exact H.drop.drop | exact H.dropL | exact H.drop.dropL | exact H.dropL.drop | exact H.dropL.dropL | exact H.dropMid) rfl ?_
            refine OpsD.take 29 rfl (by kernel_rfl) (by first | exact H | exact H.drop | exact H.drop.drop | exact H.dropL | exact H.drop.dropL | exact H.dropL.drop | exact H.dropL.dropL | exact H.dropMid) (fun w H => (by first | exact Ev.pickT rfl rfl | exact Ev.pickF rfl rfl)) rfl ?_
            refine OpsD.take 30 rfl (by kernel_rfl) (by first | exact H | exact H.drop | exact H.drop.drop | exact H.dropL | exact H.drop.dropL | exact H.dropL.drop | exact H.dropL.dropL | exact H.dropMid) (fun w H => Ev.assign rfl) rfl ?_
            refine OpsD.done (by kernel_rfl) ?_
            repeat (first | refine .seq ?_ | refine .skip ?_ | refine .block ?_ | refine .inBlock ?_ | refine .yes rfl ?_ | refine .no rfl ?_ | refine .exit rfl ?_)
            exact RunsE.ret1 Tryz.func33 rfl rfl ⟨by rw [decide_eq_false fun h => h5 h.2.2.2.2], H.drop⟩
        ·
          repeat (first | refine .seq ?_ | refine .skip ?_ | refine .block ?_ | refine .inBlock ?_ | refine .yes rfl ?_ | refine .no rfl ?_ | refine .exit rfl ?_)
          refine RunsE.drawS H [] (by kernel_rfl) ?_; (try clear H); intro w H
          refine OpsD.take 0 rfl (by kernel_rfl) H (fun w H => Ev.fieldAddr (o := 0) rfl (by kernel_rfl)) rfl ?_
          refine OpsD.take 1 rfl (by kernel_rfl) H (fun w H => Ev.load H rfl (by kernel_rfl) (by first | exact Rd.mk m0 rfl | exact Rd.mk m1 rfl | exact Rd.mk m2 rfl | exact Rd.mk m3 rfl | assumption)) rfl ?_
          refine OpsD.take 2 rfl (by kernel_rfl) H (fun w H => Ev.geq rfl rfl) rfl ?_
          refine OpsD.take 3 rfl (by kernel_rfl) H (fun w H => Ev.move rfl) rfl ?_
          first | refine OpsD.takeYes 4 rfl (by kernel_rfl) rfl rfl H (fun w H => Ev.fieldAddr (o := 1) rfl (by kernel_rfl)) rfl ?_ | refine OpsD.takeNo 4 rfl (by kernel_rfl) rfl rfl H rfl ?_ | refine OpsD.takeOff 4 rfl (by kernel_rfl) rfl rfl H rfl ?_
          first | refine OpsD.takeYes 5 rfl (by kernel_rfl) rfl rfl H (fun w H => Ev.load H rfl (by kernel_rfl) (by first | exact Rd.mk m0 rfl | exact Rd.mk m1 rfl | exact Rd.mk m2 rfl | exact Rd.mk m3 rfl | assumption)) rfl ?_ | refine OpsD.takeNo 5 rfl (by kernel_rfl) rfl rfl H rfl ?_ | refine OpsD.takeOff 5 rfl (by kernel_rfl) rfl rfl H rfl ?_
          first | refine OpsD.takeYes 6 rfl (by kernel_rfl) rfl rfl H (fun w H => Ev.geq rfl rfl) rfl ?_ | refine OpsD.takeNo 6 rfl (by kernel_rfl) rfl rfl H rfl ?_ | refine OpsD.takeOff 6 rfl (by kernel_rfl) rfl rfl H rfl ?_
          refine OpsD.take 7 rfl (by kernel_rfl) H (fun w H => (by first | exact Ev.pickT rfl rfl | exact Ev.pickF rfl rfl)) rfl ?_
          refine OpsD.take 8 rfl (by kernel_rfl) H (fun w H => Ev.move rfl) rfl ?_
          first | refine OpsD.takeYes 9 rfl (by kernel_rfl) rfl rfl H (fun w H => Ev.fieldAddr (o := 1) rfl (by kernel_rfl)) rfl ?_ | refine OpsD.takeNo 9 rfl (by kernel_rfl) rfl rfl H rfl ?_ | refine OpsD.takeOff 9 rfl (by kernel_rfl) rfl rfl H rfl ?_
          first | refine OpsD.takeYes 10 rfl (by kernel_rfl) rfl rfl H (fun w H => Ev.load H rfl (by kernel_rfl) (by first | exact Rd.mk m0 rfl | exact Rd.mk m1 rfl | exact Rd.mk m2 rfl | exact Rd.mk m3 rfl | assumption)) rfl ?_ | refine OpsD.takeNo 10 rfl (by kernel_rfl) rfl rfl H rfl ?_ | refine OpsD.takeOff 10 rfl (by kernel_rfl) rfl rfl H rfl ?_
          first | refine OpsD.takeYes 11 rfl (by kernel_rfl) rfl rfl H (fun w H => Ev.leq rfl rfl) rfl ?_ | refine OpsD.takeNo 11 rfl (by kernel_rfl) rfl rfl H rfl ?_ | refine OpsD.takeOff 11 rfl (by kernel_rfl) rfl rfl H rfl ?_
          refine OpsD.take 12 rfl (by kernel_rfl) H (fun w H => (by first | exact Ev.pickT rfl rfl | exact Ev.pickF rfl rfl)) rfl ?_
          refine OpsD.take 13 rfl (by kernel_rfl) H (fun w H => Ev.move rfl) rfl ?_
          first | refine OpsD.takeYes 14 rfl (by kernel_rfl) rfl rfl H (fun w H => Ev.fieldAddr (o := 0) rfl (by kernel_rfl)) rfl ?_ | refine OpsD.takeNo 14 rfl (by kernel_rfl) rfl rfl H rfl ?_ | refine OpsD.takeOff 14 rfl (by kernel_rfl) rfl rfl H rfl ?_
          first | refine OpsD.takeYes 15 rfl (by kernel_rfl) rfl rfl H (fun w H => Ev.load H rfl (by kernel_rfl) (by first | exact Rd.mk m0 rfl | exact Rd.mk m1 rfl | exact Rd.mk m2 rfl | exact Rd.mk m3 rfl | assumption)) rfl ?_ | refine OpsD.takeNo 15 rfl (by kernel_rfl) rfl rfl H rfl ?_ | refine OpsD.takeOff 15 rfl (by kernel_rfl) rfl rfl H rfl ?_
          first | refine OpsD.takeYes 16 rfl (by kernel_rfl) rfl rfl H (fun w H => Ev.move rfl) rfl ?_ | refine OpsD.takeNo 16 rfl (by kernel_rfl) rfl rfl H rfl ?_ | refine OpsD.takeOff 16 rfl (by kernel_rfl) rfl rfl H rfl ?_
          first | (refine OpsD.one 17 (by kernel_rfl) (StepD.exYes rfl rfl rfl (Ex.call rfl Tryz.call66 (pages_spec st p A w _ hA H.headL)) rfl ?_); (try clear H); rintro _ w ⟨rfl, H⟩; replace H := H.unmid; refine ⟨(by first | exact H | exact H.drop | exact H.drop.drop | exact H.dropL | exact H.drop.dropL | exact H.dropL.drop | exact H.dropL.dropL | exact H.dropMid), ?_⟩) | refine OpsD.takeNo 17 rfl (by kernel_rfl) rfl rfl H rfl ?_ | refine OpsD.takeOff 17 rfl (by kernel_rfl) rfl rfl H rfl ?_
          first | refine OpsD.takeYes 18 rfl (by kernel_rfl) rfl rfl (by first | exact H | exact H.drop | exact H.drop.drop | exact H.dropL | exact H.drop.dropL | exact H.dropL.drop | exact H.dropL.dropL | exact H.dropMid) (fun w H => Ev.leq rfl rfl) rfl ?_ | refine OpsD.takeNo 18 rfl (by kernel_rfl) rfl rfl (by first | exact H | exact H.drop | exact H.drop.drop | exact H.dropL | exact H.drop.dropL | exact H.dropL.drop | exact H.dropL.dropL | exact H.dropMid) rfl ?_ | refine OpsD.takeOff 18 rfl (by kernel_rfl) rfl rfl (by first | exact H | exact H.drop | exact H.drop.drop | exact H.dropL | exact H.drop.dropL | exact H.dropL.drop | exact H.dropL.dropL | exact H.dropMid) rfl ?_
          refine OpsD.take 19 rfl (by kernel_rfl) (by first | exact H | exact H.drop | exact H.drop.drop | exact H.dropL | exact H.drop.dropL | exact H.dropL.drop | exact H.dropL.dropL | exact H.dropMid) (fun w H => (by first | exact Ev.pickT rfl rfl | exact Ev.pickF rfl rfl)) rfl ?_
          refine OpsD.take 20 rfl (by kernel_rfl) (by first | exact H | exact H.drop | exact H.drop.drop | exact H.dropL | exact H.drop.dropL | exact H.dropL.drop | exact H.dropL.dropL | exact H.dropMid) (fun w H => Ev.move rfl) rfl ?_
          first | refine OpsD.takeYes 21 rfl (by kernel_rfl) rfl rfl (by first | exact H | exact H.drop | exact H.drop.drop | exact H.dropL | exact H.drop.dropL | exact H.dropL.drop | exact H.dropL.dropL | exact H.dropMid) (fun w H => Ev.fieldAddr (o := 1) rfl (by kernel_rfl)) rfl ?_ | refine OpsD.takeNo 21 rfl (by kernel_rfl) rfl rfl (by first | exact H | exact H.drop | exact H.drop.drop | exact H.dropL | exact H.drop.dropL | exact H.dropL.drop | exact H.dropL.dropL | exact H.dropMid) rfl ?_ | refine OpsD.takeOff 21 rfl (by kernel_rfl) rfl rfl (by first | exact H | exact H.drop | exact H.drop.drop | exact H.dropL | exact H.drop.dropL | exact H.dropL.drop | exact H.dropL.dropL | exact H.dropMid) rfl ?_
          first | refine OpsD.takeYes 22 rfl (by kernel_rfl) rfl rfl (by first | exact H | exact H.drop | exact H.drop.drop | exact H.dropL | exact H.drop.dropL | exact H.dropL.drop | exact H.dropL.dropL | exact H.dropMid) (fun w H => Ev.load H rfl (by kernel_rfl) (by first | exact Rd.mk m0 rfl | exact Rd.mk m1 rfl | exact Rd.mk m2 rfl | exact Rd.mk m3 rfl | assumption)) rfl ?_ | refine OpsD.takeNo 22 rfl (by kernel_rfl) rfl rfl (by first | exact H | exact H.drop | exact H.drop.drop | exact H.dropL | exact H.drop.dropL | exact H.dropL.drop | exact H.dropL.dropL | exact H.dropMid) rfl ?_ | refine OpsD.takeOff 22 rfl (by kernel_rfl) rfl rfl (by first | exact H | exact H.drop | exact H.drop.drop | exact H.dropL | exact H.drop.dropL | exact H.dropL.drop | exact H.dropL.dropL | exact H.dropMid) rfl ?_
          first | refine OpsD.takeYes 23 rfl (by kernel_rfl) rfl rfl (by first | exact H | exact H.drop | exact H.drop.drop | exact H.dropL | exact H.drop.dropL | exact H.dropL.drop | exact H.dropL.dropL | exact H.dropMid) (fun w H => Ev.move rfl) rfl ?_ | refine OpsD.takeNo 23 rfl (by kernel_rfl) rfl rfl (by first | exact H | exact H.drop | exact H.drop.drop | exact H.dropL | exact H.drop.dropL | exact H.dropL.drop | exact H.dropL.dropL | exact H.dropMid) rfl ?_ | refine OpsD.takeOff 23 rfl (by kernel_rfl) rfl rfl (by first | exact H | exact H.drop | exact H.drop.drop | exact H.dropL | exact H.drop.dropL | exact H.dropL.drop | exact H.dropL.dropL | exact H.dropMid) rfl ?_
          first | refine OpsD.takeYes 25 rfl (by kernel_rfl) rfl rfl (by first | exact H | exact H.drop | exact H.drop.drop | exact H.dropL | exact H.drop.dropL | exact H.dropL.drop | exact H.dropL.dropL | exact H.dropMid) (fun w H => Ev.fieldAddr (o := 0) rfl (by kernel_rfl)) rfl ?_ | refine OpsD.takeNo 25 rfl (by kernel_rfl) rfl rfl (by first | exact H | exact H.drop | exact H.drop.drop | exact H.dropL | exact H.drop.dropL | exact H.dropL.drop | exact H.dropL.dropL | exact H.dropMid) rfl ?_ | refine OpsD.takeOff 25 rfl (by kernel_rfl) rfl rfl (by first | exact H | exact H.drop | exact H.drop.drop | exact H.dropL | exact H.drop.dropL | exact H.dropL.drop | exact H.dropL.dropL | exact H.dropMid) rfl ?_
          first | refine OpsD.takeYes 26 rfl (by kernel_rfl) rfl rfl (by first | exact H | exact H.drop | exact H.drop.drop | exact H.dropL | exact H.drop.dropL | exact H.dropL.drop | exact H.dropL.dropL | exact H.dropMid) (fun w H => Ev.load H rfl (by kernel_rfl) (by first | exact Rd.mk m0 rfl | exact Rd.mk m1 rfl | exact Rd.mk m2 rfl | exact Rd.mk m3 rfl | assumption)) rfl ?_ | refine OpsD.takeNo 26 rfl (by kernel_rfl) rfl rfl (by first | exact H | exact H.drop | exact H.drop.drop | exact H.dropL | exact H.drop.dropL | exact H.dropL.drop | exact H.dropL.dropL | exact H.dropMid) rfl ?_ | refine OpsD.takeOff 26 rfl (by kernel_rfl) rfl rfl (by first | exact H | exact H.drop | exact H.drop.drop | exact H.dropL | exact H.drop.dropL | exact H.dropL.drop | exact H.dropL.dropL | exact H.dropMid) rfl ?_
          first | (refine OpsD.one 24 (by kernel_rfl) (StepD.exYes rfl rfl rfl (Ex.call rfl Tryz.call66 (pages_spec st p A w _ hA H.headL)) rfl ?_); (try clear H); rintro _ w ⟨rfl, H⟩; replace H := H.unmid; refine ⟨(by first | exact H | exact H.drop | exact H.drop.drop | exact H.dropL | exact H.drop.dropL | exact H.dropL.drop | exact H.dropL.dropL | exact H.dropMid), ?_⟩) | refine OpsD.takeNo 24 rfl (by kernel_rfl) rfl rfl (by first | exact H | exact H.drop | exact H.drop.drop | exact H.dropL | exact H.drop.dropL | exact H.dropL.drop | exact H.dropL.dropL | exact H.dropMid) rfl ?_ | refine OpsD.takeOff 24 rfl (by kernel_rfl) rfl rfl (by first | exact H | exact H.drop | exact H.drop.drop | exact H.dropL | exact H.drop.dropL | exact H.dropL.drop | exact H.dropL.dropL | exact H.dropMid) rfl ?_
          first | refine OpsD.takeYes 27 rfl (by kernel_rfl) rfl rfl (by first | exact H | exact H.drop | exact H.drop.drop | exact H.dropL | exact H.drop.dropL | exact H.dropL.drop | exact H.dropL.dropL | exact H.dropMid) (fun w H => Ev.sub rfl rfl) rfl ?_ | refine OpsD.takeNo 27 rfl (by kernel_rfl) rfl rfl (by first | exact H | exact H.drop | exact H.drop.drop | exact H.dropL | exact H.drop.dropL | exact H.dropL.drop | exact H.dropL.dropL | exact H.dropMid) rfl ?_ | refine OpsD.takeOff 27 rfl (by kernel_rfl) rfl rfl (by first | exact H | exact H.drop | exact H.drop.drop | exact H.dropL | exact H.drop.dropL | exact H.dropL.drop | exact H.dropL.dropL | exact H.dropMid) rfl ?_
          first | refine OpsD.takeYes 28 rfl (by kernel_rfl) rfl rfl (by first | exact H | exact H.drop | exact H.drop.drop | exact H.dropL | exact H.drop.dropL | exact H.dropL.drop | exact H.dropL.dropL | exact H.dropMid) (fun w H => Ev.leq rfl rfl) rfl ?_ | refine OpsD.takeNo 28 rfl (by kernel_rfl) rfl rfl (by first | exact H | exact H.drop | exact H.drop.drop | exact H.dropL | exact H.drop.dropL | exact H.dropL.drop | exact H.dropL.dropL | exact H.dropMid) rfl ?_ | refine OpsD.takeOff 28 rfl (by kernel_rfl) rfl rfl (by first | exact H | exact H.drop | exact H.drop.drop | exact H.dropL | exact H.drop.dropL | exact H.dropL.drop | exact H.dropL.dropL | exact H.dropMid) rfl ?_
          refine OpsD.take 29 rfl (by kernel_rfl) (by first | exact H | exact H.drop | exact H.drop.drop | exact H.dropL | exact H.drop.dropL | exact H.dropL.drop | exact H.dropL.dropL | exact H.dropMid) (fun w H => (by first | exact Ev.pickT rfl rfl | exact Ev.pickF rfl rfl)) rfl ?_
          refine OpsD.take 30 rfl (by kernel_rfl) (by first | exact H | exact H.drop | exact H.drop.drop | exact H.dropL | exact H.drop.dropL | exact H.dropL.drop | exact H.dropL.dropL | exact H.dropMid) (fun w H => Ev.assign rfl) rfl ?_
          refine OpsD.done (by kernel_rfl) ?_
          repeat (first | refine .seq ?_ | refine .skip ?_ | refine .block ?_ | refine .inBlock ?_ | refine .yes rfl ?_ | refine .no rfl ?_ | refine .exit rfl ?_)
          exact RunsE.ret1 Tryz.func33 rfl rfl ⟨by rw [decide_eq_false fun h => h4 h.2.2.2.1], H.drop⟩
      ·
        repeat (first | refine .seq ?_ | refine .skip ?_ | refine .block ?_ | refine .inBlock ?_ | refine .yes rfl ?_ | refine .no rfl ?_ | refine .exit rfl ?_)
        refine RunsE.drawS H [] (by kernel_rfl) ?_; (try clear H); intro w H
        refine OpsD.take 0 rfl (by kernel_rfl) H (fun w H => Ev.fieldAddr (o := 0) rfl (by kernel_rfl)) rfl ?_
        refine OpsD.take 1 rfl (by kernel_rfl) H (fun w H => Ev.load H rfl (by kernel_rfl) (by first | exact Rd.mk m0 rfl | exact Rd.mk m1 rfl | exact Rd.mk m2 rfl | exact Rd.mk m3 rfl | assumption)) rfl ?_
        refine OpsD.take 2 rfl (by kernel_rfl) H (fun w H => Ev.geq rfl rfl) rfl ?_
        refine OpsD.take 3 rfl (by kernel_rfl) H (fun w H => Ev.move rfl) rfl ?_
        first | refine OpsD.takeYes 4 rfl (by kernel_rfl) rfl rfl H (fun w H => Ev.fieldAddr (o := 1) rfl (by kernel_rfl)) rfl ?_ | refine OpsD.takeNo 4 rfl (by kernel_rfl) rfl rfl H rfl ?_ | refine OpsD.takeOff 4 rfl (by kernel_rfl) rfl rfl H rfl ?_
        first | refine OpsD.takeYes 5 rfl (by kernel_rfl) rfl rfl H (fun w H => Ev.load H rfl (by kernel_rfl) (by first | exact Rd.mk m0 rfl | exact Rd.mk m1 rfl | exact Rd.mk m2 rfl | exact Rd.mk m3 rfl | assumption)) rfl ?_ | refine OpsD.takeNo 5 rfl (by kernel_rfl) rfl rfl H rfl ?_ | refine OpsD.takeOff 5 rfl (by kernel_rfl) rfl rfl H rfl ?_
        first | refine OpsD.takeYes 6 rfl (by kernel_rfl) rfl rfl H (fun w H => Ev.geq rfl rfl) rfl ?_ | refine OpsD.takeNo 6 rfl (by kernel_rfl) rfl rfl H rfl ?_ | refine OpsD.takeOff 6 rfl (by kernel_rfl) rfl rfl H rfl ?_
        refine OpsD.take 7 rfl (by kernel_rfl) H (fun w H => (by first | exact Ev.pickT rfl rfl | exact Ev.pickF rfl rfl)) rfl ?_
        refine OpsD.take 8 rfl (by kernel_rfl) H (fun w H => Ev.move rfl) rfl ?_
        first | refine OpsD.takeYes 9 rfl (by kernel_rfl) rfl rfl H (fun w H => Ev.fieldAddr (o := 1) rfl (by kernel_rfl)) rfl ?_ | refine OpsD.takeNo 9 rfl (by kernel_rfl) rfl rfl H rfl ?_ | refine OpsD.takeOff 9 rfl (by kernel_rfl) rfl rfl H rfl ?_
        first | refine OpsD.takeYes 10 rfl (by kernel_rfl) rfl rfl H (fun w H => Ev.load H rfl (by kernel_rfl) (by first | exact Rd.mk m0 rfl | exact Rd.mk m1 rfl | exact Rd.mk m2 rfl | exact Rd.mk m3 rfl | assumption)) rfl ?_ | refine OpsD.takeNo 10 rfl (by kernel_rfl) rfl rfl H rfl ?_ | refine OpsD.takeOff 10 rfl (by kernel_rfl) rfl rfl H rfl ?_
        first | refine OpsD.takeYes 11 rfl (by kernel_rfl) rfl rfl H (fun w H => Ev.leq rfl rfl) rfl ?_ | refine OpsD.takeNo 11 rfl (by kernel_rfl) rfl rfl H rfl ?_ | refine OpsD.takeOff 11 rfl (by kernel_rfl) rfl rfl H rfl ?_
        refine OpsD.take 12 rfl (by kernel_rfl) H (fun w H => (by first | exact Ev.pickT rfl rfl | exact Ev.pickF rfl rfl)) rfl ?_
        refine OpsD.take 13 rfl (by kernel_rfl) H (fun w H => Ev.move rfl) rfl ?_
        first | refine OpsD.takeYes 14 rfl (by kernel_rfl) rfl rfl H (fun w H => Ev.fieldAddr (o := 0) rfl (by kernel_rfl)) rfl ?_ | refine OpsD.takeNo 14 rfl (by kernel_rfl) rfl rfl H rfl ?_ | refine OpsD.takeOff 14 rfl (by kernel_rfl) rfl rfl H rfl ?_
        first | refine OpsD.takeYes 15 rfl (by kernel_rfl) rfl rfl H (fun w H => Ev.load H rfl (by kernel_rfl) (by first | exact Rd.mk m0 rfl | exact Rd.mk m1 rfl | exact Rd.mk m2 rfl | exact Rd.mk m3 rfl | assumption)) rfl ?_ | refine OpsD.takeNo 15 rfl (by kernel_rfl) rfl rfl H rfl ?_ | refine OpsD.takeOff 15 rfl (by kernel_rfl) rfl rfl H rfl ?_
        first | refine OpsD.takeYes 16 rfl (by kernel_rfl) rfl rfl H (fun w H => Ev.move rfl) rfl ?_ | refine OpsD.takeNo 16 rfl (by kernel_rfl) rfl rfl H rfl ?_ | refine OpsD.takeOff 16 rfl (by kernel_rfl) rfl rfl H rfl ?_
        first | (refine OpsD.one 17 (by kernel_rfl) (StepD.exYes rfl rfl rfl (Ex.call rfl Tryz.call66 (pages_spec st p A w _ hA H.headL)) rfl ?_); (try clear H); rintro _ w ⟨rfl, H⟩; replace H := H.unmid; refine ⟨(by first | exact H | exact H.drop | exact H.drop.drop | exact H.dropL | exact H.drop.dropL | exact H.dropL.drop | exact H.dropL.dropL | exact H.dropMid), ?_⟩) | refine OpsD.takeNo 17 rfl (by kernel_rfl) rfl rfl H rfl ?_ | refine OpsD.takeOff 17 rfl (by kernel_rfl) rfl rfl H rfl ?_
        first | refine OpsD.takeYes 18 rfl (by kernel_rfl) rfl rfl (by first | exact H | exact H.drop | exact H.drop.drop | exact H.dropL | exact H.drop.dropL | exact H.dropL.drop | exact H.dropL.dropL | exact H.dropMid) (fun w H => Ev.leq rfl rfl) rfl ?_ | refine OpsD.takeNo 18 rfl (by kernel_rfl) rfl rfl (by first | exact H | exact H.drop | exact H.drop.drop | exact H.dropL | exact H.drop.dropL | exact H.dropL.drop | exact H.dropL.dropL | exact H.dropMid) rfl ?_ | refine OpsD.takeOff 18 rfl (by kernel_rfl) rfl rfl (by first | exact H | exact H.drop | exact H.drop.drop | exact H.dropL | exact H.drop.dropL | exact H.dropL.drop | exact H.dropL.dropL | exact H.dropMid) rfl ?_
        refine OpsD.take 19 rfl (by kernel_rfl) (by first | exact H | exact H.drop | exact H.drop.drop | exact H.dropL | exact H.drop.dropL | exact H.dropL.drop | exact H.dropL.dropL | exact H.dropMid) (fun w H => (by first | exact Ev.pickT rfl rfl | exact Ev.pickF rfl rfl)) rfl ?_
        refine OpsD.take 20 rfl (by kernel_rfl) (by first | exact H | exact H.drop | exact H.drop.drop | exact H.dropL | exact H.drop.dropL | exact H.dropL.drop | exact H.dropL.dropL | exact H.dropMid) (fun w H => Ev.move rfl) rfl ?_
        first | refine OpsD.takeYes 21 rfl (by kernel_rfl) rfl rfl (by first | exact H | exact H.drop | exact H.drop.drop | exact H.dropL | exact H.drop.dropL | exact H.dropL.drop | exact H.dropL.dropL | exact H.dropMid) (fun w H => Ev.fieldAddr (o := 1) rfl (by kernel_rfl)) rfl ?_ | refine OpsD.takeNo 21 rfl (by kernel_rfl) rfl rfl (by first | exact H | exact H.drop | exact H.drop.drop | exact H.dropL | exact H.drop.dropL | exact H.dropL.drop | exact H.dropL.dropL | exact H.dropMid) rfl ?_ | refine OpsD.takeOff 21 rfl (by kernel_rfl) rfl rfl (by first | exact H | exact H.drop | exact H.drop.drop | exact H.dropL | exact H.drop.dropL | exact H.dropL.drop | exact H.dropL.dropL | exact H.dropMid) rfl ?_
        first | refine OpsD.takeYes 22 rfl (by kernel_rfl) rfl rfl (by first | exact H | exact H.drop | exact H.drop.drop | exact H.dropL | exact H.drop.dropL | exact H.dropL.drop | exact H.dropL.dropL | exact H.dropMid) (fun w H => Ev.load H rfl (by kernel_rfl) (by first | exact Rd.mk m0 rfl | exact Rd.mk m1 rfl | exact Rd.mk m2 rfl | exact Rd.mk m3 rfl | assumption)) rfl ?_ | refine OpsD.takeNo 22 rfl (by kernel_rfl) rfl rfl (by first | exact H | exact H.drop | exact H.drop.drop | exact H.dropL | exact H.drop.dropL | exact H.dropL.drop | exact H.dropL.dropL | exact H.dropMid) rfl ?_ | refine OpsD.takeOff 22 rfl (by kernel_rfl) rfl rfl (by first | exact H | exact H.drop | exact H.drop.drop | exact H.dropL | exact H.drop.dropL | exact H.dropL.drop | exact H.dropL.dropL | exact H.dropMid) rfl ?_
        first | refine OpsD.takeYes 23 rfl (by kernel_rfl) rfl rfl (by first | exact H | exact H.drop | exact H.drop.drop | exact H.dropL | exact H.drop.dropL | exact H.dropL.drop | exact H.dropL.dropL | exact H.dropMid) (fun w H => Ev.move rfl) rfl ?_ | refine OpsD.takeNo 23 rfl (by kernel_rfl) rfl rfl (by first | exact H | exact H.drop | exact H.drop.drop | exact H.dropL | exact H.drop.dropL | exact H.dropL.drop | exact H.dropL.dropL | exact H.dropMid) rfl ?_ | refine OpsD.takeOff 23 rfl (by kernel_rfl) rfl rfl (by first | exact H | exact H.drop | exact H.drop.drop | exact H.dropL | exact H.drop.dropL | exact H.dropL.drop | exact H.dropL.dropL | exact H.dropMid) rfl ?_
        first | refine OpsD.takeYes 25 rfl (by kernel_rfl) rfl rfl (by first | exact H | exact H.drop | exact H.drop.drop | exact H.dropL | exact H.drop.dropL | exact H.dropL.drop | exact H.dropL.dropL | exact H.dropMid) (fun w H => Ev.fieldAddr (o := 0) rfl (by kernel_rfl)) rfl ?_ | refine OpsD.takeNo 25 rfl (by kernel_rfl) rfl rfl (by first | exact H | exact H.drop | exact H.drop.drop | exact H.dropL | exact H.drop.dropL | exact H.dropL.drop | exact H.dropL.dropL | exact H.dropMid) rfl ?_ | refine OpsD.takeOff 25 rfl (by kernel_rfl) rfl rfl (by first | exact H | exact H.drop | exact H.drop.drop | exact H.dropL | exact H.drop.dropL | exact H.dropL.drop | exact H.dropL.dropL | exact H.dropMid) rfl ?_
        first | refine OpsD.takeYes 26 rfl (by kernel_rfl) rfl rfl (by first | exact H | exact H.drop | exact H.drop.drop | exact H.dropL | exact H.drop.dropL | exact H.dropL.drop | exact H.dropL.dropL | exact H.dropMid) (fun w H => Ev.load H rfl (by kernel_rfl) (by first | exact Rd.mk m0 rfl | exact Rd.mk m1 rfl | exact Rd.mk m2 rfl | exact Rd.mk m3 rfl | assumption)) rfl ?_ | refine OpsD.takeNo 26 rfl (by kernel_rfl) rfl rfl (by first | exact H | exact H.drop | exact H.drop.drop | exact H.dropL | exact H.drop.dropL | exact H.dropL.drop | exact H.dropL.dropL | exact H.dropMid) rfl ?_ | refine OpsD.takeOff 26 rfl (by kernel_rfl) rfl rfl (by first | exact H | exact H.drop | exact H.drop.drop | exact H.dropL | exact H.drop.dropL | exact H.dropL.drop | exact H.dropL.dropL | exact H.dropMid) rfl ?_
        first | (refine OpsD.one 24 (by kernel_rfl) (StepD.exYes rfl rfl rfl (Ex.call rfl Tryz.call66 (pages_spec st p A w _ hA H.headL)) rfl ?_); (try clear H); rintro _ w ⟨rfl, H⟩; replace H := H.unmid; refine ⟨(by first | exact H | exact H.drop | exact H.drop.drop | exact H.dropL | exact H.drop.dropL | exact H.dropL.drop | exact H.dropL.dropL | exact H.dropMid), ?_⟩) | refine OpsD.takeNo 24 rfl (by kernel_rfl) rfl rfl (by first | exact H | exact H.drop | exact H.drop.drop | exact H.dropL | exact H.drop.dropL | exact H.dropL.drop | exact H.dropL.dropL | exact H.dropMid) rfl ?_ | refine OpsD.takeOff 24 rfl (by kernel_rfl) rfl rfl (by first | exact H | exact H.drop | exact H.drop.drop | exact H.dropL | exact H.drop.dropL | exact H.dropL.drop | exact H.dropL.dropL | exact H.dropMid) rfl ?_
        first | refine OpsD.takeYes 27 rfl (by kernel_rfl) rfl rfl (by first | exact H | exact H.drop | exact H.drop.drop | exact H.dropL | exact H.drop.dropL | exact H.dropL.drop | exact H.dropL.dropL | exact H.dropMid) (fun w H => Ev.sub rfl rfl) rfl ?_ | refine OpsD.takeNo 27 rfl (by kernel_rfl) rfl rfl (by first | exact H | exact H.drop | exact H.drop.drop | exact H.dropL | exact H.drop.dropL | exact H.dropL.drop | exact H.dropL.dropL | exact H.dropMid) rfl ?_ | refine OpsD.takeOff 27 rfl (by kernel_rfl) rfl rfl (by first | exact H | exact H.drop | exact H.drop.drop | exact H.dropL | exact H.drop.dropL | exact H.dropL.drop | exact H.dropL.dropL | exact H.dropMid) rfl ?_
        first | refine OpsD.takeYes 28 rfl (by kernel_rfl) rfl rfl (by first | exact H | exact H.drop | exact H.drop.drop | exact H.dropL | exact H.drop.dropL | exact H.dropL.drop | exact H.dropL.dropL | exact H.dropMid) (fun w H => Ev.leq rfl rfl) rfl ?_ | refine OpsD.takeNo 28 rfl (by kernel_rfl) rfl rfl (by first | exact H | exact H.drop | exact H.drop.drop | exact H.dropL | exact H.drop.dropL | exact H.dropL.drop | exact H.dropL.dropL | exact H.dropMid) rfl ?_ | refine OpsD.takeOff 28 rfl (by kernel_rfl) rfl rfl (by first | exact H | exact H.drop | exact H.drop.drop | exact H.dropL | exact H.drop.dropL | exact H.dropL.drop | exact H.dropL.dropL | exact H.dropMid) rfl ?_
        refine OpsD.take 29 rfl (by kernel_rfl) (by first | exact H | exact H.drop | exact H.drop.drop | exact H.dropL | exact H.drop.dropL | exact H.dropL.drop | exact H.dropL.dropL | exact H.dropMid) (fun w H => (by first | exact Ev.pickT rfl rfl | exact Ev.pickF rfl rfl)) rfl ?_
        refine OpsD.take 30 rfl (by kernel_rfl) (by first | exact H | exact H.drop | exact H.drop.drop | exact H.dropL | exact H.drop.dropL | exact H.dropL.drop | exact H.dropL.dropL | exact H.dropMid) (fun w H => Ev.assign rfl) rfl ?_
        refine OpsD.done (by kernel_rfl) ?_
        repeat (first | refine .seq ?_ | refine .skip ?_ | refine .block ?_ | refine .inBlock ?_ | refine .yes rfl ?_ | refine .no rfl ?_ | refine .exit rfl ?_)
        exact RunsE.ret1 Tryz.func33 rfl rfl ⟨by rw [decide_eq_false fun h => h3 h.2.2.1], H.drop⟩
    ·
      repeat (first | refine .seq ?_ | refine .skip ?_ | refine .block ?_ | refine .inBlock ?_ | refine .yes rfl ?_ | refine .no rfl ?_ | refine .exit rfl ?_)
      refine RunsE.drawS H [] (by kernel_rfl) ?_; (try clear H); intro w H
      refine OpsD.take 0 rfl (by kernel_rfl) H (fun w H => Ev.fieldAddr (o := 0) rfl (by kernel_rfl)) rfl ?_
      refine OpsD.take 1 rfl (by kernel_rfl) H (fun w H => Ev.load H rfl (by kernel_rfl) (by first | exact Rd.mk m0 rfl | exact Rd.mk m1 rfl | exact Rd.mk m2 rfl | exact Rd.mk m3 rfl | assumption)) rfl ?_
      refine OpsD.take 2 rfl (by kernel_rfl) H (fun w H => Ev.geq rfl rfl) rfl ?_
      refine OpsD.take 3 rfl (by kernel_rfl) H (fun w H => Ev.move rfl) rfl ?_
      first | refine OpsD.takeYes 4 rfl (by kernel_rfl) rfl rfl H (fun w H => Ev.fieldAddr (o := 1) rfl (by kernel_rfl)) rfl ?_ | refine OpsD.takeNo 4 rfl (by kernel_rfl) rfl rfl H rfl ?_ | refine OpsD.takeOff 4 rfl (by kernel_rfl) rfl rfl H rfl ?_
      first | refine OpsD.takeYes 5 rfl (by kernel_rfl) rfl rfl H (fun w H => Ev.load H rfl (by kernel_rfl) (by first | exact Rd.mk m0 rfl | exact Rd.mk m1 rfl | exact Rd.mk m2 rfl | exact Rd.mk m3 rfl | assumption)) rfl ?_ | refine OpsD.takeNo 5 rfl (by kernel_rfl) rfl rfl H rfl ?_ | refine OpsD.takeOff 5 rfl (by kernel_rfl) rfl rfl H rfl ?_
      first | refine OpsD.takeYes 6 rfl (by kernel_rfl) rfl rfl H (fun w H => Ev.geq rfl rfl) rfl ?_ | refine OpsD.takeNo 6 rfl (by kernel_rfl) rfl rfl H rfl ?_ | refine OpsD.takeOff 6 rfl (by kernel_rfl) rfl rfl H rfl ?_
      refine OpsD.take 7 rfl (by kernel_rfl) H (fun w H => (by first | exact Ev.pickT rfl rfl | exact Ev.pickF rfl rfl)) rfl ?_
      refine OpsD.take 8 rfl (by kernel_rfl) H (fun w H => Ev.move rfl) rfl ?_
      first | refine OpsD.takeYes 9 rfl (by kernel_rfl) rfl rfl H (fun w H => Ev.fieldAddr (o := 1) rfl (by kernel_rfl)) rfl ?_ | refine OpsD.takeNo 9 rfl (by kernel_rfl) rfl rfl H rfl ?_ | refine OpsD.takeOff 9 rfl (by kernel_rfl) rfl rfl H rfl ?_
      first | refine OpsD.takeYes 10 rfl (by kernel_rfl) rfl rfl H (fun w H => Ev.load H rfl (by kernel_rfl) (by first | exact Rd.mk m0 rfl | exact Rd.mk m1 rfl | exact Rd.mk m2 rfl | exact Rd.mk m3 rfl | assumption)) rfl ?_ | refine OpsD.takeNo 10 rfl (by kernel_rfl) rfl rfl H rfl ?_ | refine OpsD.takeOff 10 rfl (by kernel_rfl) rfl rfl H rfl ?_
      first | refine OpsD.takeYes 11 rfl (by kernel_rfl) rfl rfl H (fun w H => Ev.leq rfl rfl) rfl ?_ | refine OpsD.takeNo 11 rfl (by kernel_rfl) rfl rfl H rfl ?_ | refine OpsD.takeOff 11 rfl (by kernel_rfl) rfl rfl H rfl ?_
      refine OpsD.take 12 rfl (by kernel_rfl) H (fun w H => (by first | exact Ev.pickT rfl rfl | exact Ev.pickF rfl rfl)) rfl ?_
      refine OpsD.take 13 rfl (by kernel_rfl) H (fun w H => Ev.move rfl) rfl ?_
      first | refine OpsD.takeYes 14 rfl (by kernel_rfl) rfl rfl H (fun w H => Ev.fieldAddr (o := 0) rfl (by kernel_rfl)) rfl ?_ | refine OpsD.takeNo 14 rfl (by kernel_rfl) rfl rfl H rfl ?_ | refine OpsD.takeOff 14 rfl (by kernel_rfl) rfl rfl H rfl ?_
      first | refine OpsD.takeYes 15 rfl (by kernel_rfl) rfl rfl H (fun w H => Ev.load H rfl (by kernel_rfl) (by first | exact Rd.mk m0 rfl | exact Rd.mk m1 rfl | exact Rd.mk m2 rfl | exact Rd.mk m3 rfl | assumption)) rfl ?_ | refine OpsD.takeNo 15 rfl (by kernel_rfl) rfl rfl H rfl ?_ | refine OpsD.takeOff 15 rfl (by kernel_rfl) rfl rfl H rfl ?_
      first | refine OpsD.takeYes 16 rfl (by kernel_rfl) rfl rfl H (fun w H => Ev.move rfl) rfl ?_ | refine OpsD.takeNo 16 rfl (by kernel_rfl) rfl rfl H rfl ?_ | refine OpsD.takeOff 16 rfl (by kernel_rfl) rfl rfl H rfl ?_
      first | (refine OpsD.one 17 (by kernel_rfl) (StepD.exYes rfl rfl rfl (Ex.call rfl Tryz.call66 (pages_spec st p A w _ hA H.headL)) rfl ?_); (try clear H); rintro _ w ⟨rfl, H⟩; replace H := H.unmid; refine ⟨(by first | exact H | exact H.drop | exact H.drop.drop | exact H.dropL | exact H.drop.dropL | exact H.dropL.drop | exact H.dropL.dropL | exact H.dropMid), ?_⟩) | refine OpsD.takeNo 17 rfl (by kernel_rfl) rfl rfl H rfl ?_ | refine OpsD.takeOff 17 rfl (by kernel_rfl) rfl rfl H rfl ?_
      first | refine OpsD.takeYes 18 rfl (by kernel_rfl) rfl rfl (by first | exact H | exact H.drop | exact H.drop.drop | exact H.dropL | exact H.drop.dropL | exact H.dropL.drop | exact H.dropL.dropL | exact H.dropMid) (fun w H => Ev.leq rfl rfl) rfl ?_ | refine OpsD.takeNo 18 rfl (by kernel_rfl) rfl rfl (by first | exact H | exact H.drop | exact H.drop.drop | exact H.dropL | exact H.drop.dropL | exact H.dropL.drop | exact H.dropL.dropL | exact H.dropMid) rfl ?_ | refine OpsD.takeOff 18 rfl (by kernel_rfl) rfl rfl (by first | exact H | exact H.drop | exact H.drop.drop | exact H.dropL | exact H.drop.dropL | exact H.dropL.drop | exact H.dropL.dropL | exact H.dropMid) rfl ?_
      refine OpsD.take 19 rfl (by kernel_rfl) (by first | exact H | exact H.drop | exact H.drop.drop | exact H.dropL | exact H.drop.dropL | exact H.dropL.drop | exact H.dropL.dropL | exact H.dropMid) (fun w H => (by first | exact Ev.pickT rfl rfl | exact Ev.pickF rfl rfl)) rfl ?_
      refine OpsD.take 20 rfl (by kernel_rfl) (by first | exact H | exact H.drop | exact H.drop.drop | exact H.dropL | exact H.drop.dropL | exact H.dropL.drop | exact H.dropL.dropL | exact H.dropMid) (fun w H => Ev.move rfl) rfl ?_
      first | refine OpsD.takeYes 21 rfl (by kernel_rfl) rfl rfl (by first | exact H | exact H.drop | exact H.drop.drop | exact H.dropL | exact H.drop.dropL | exact H.dropL.drop | exact H.dropL.dropL | exact H.dropMid) (fun w H => Ev.fieldAddr (o := 1) rfl (by kernel_rfl)) rfl ?_ | refine OpsD.takeNo 21 rfl (by kernel_rfl) rfl rfl (by first | exact H | exact H.drop | exact H.drop.drop | exact H.dropL | exact H.drop.dropL | exact H.dropL.drop | exact H.dropL.dropL | exact H.dropMid) rfl ?_ | refine OpsD.takeOff 21 rfl (by kernel_rfl) rfl rfl (by first | exact H | exact H.drop | exact H.drop.drop | exact H.dropL | exact H.drop.dropL | exact H.dropL.drop | exact H.dropL.dropL | exact H.dropMid) rfl ?_
      first | refine OpsD.takeYes 22 rfl (by kernel_rfl) rfl rfl (by first | exact H | exact H.drop | exact H.drop.drop | exact H.dropL | exact H.drop.dropL | exact H.dropL.drop | exact H.dropL.dropL | exact H.dropMid) (fun w H => Ev.load H rfl (by kernel_rfl) (by first | exact Rd.mk m0 rfl | exact Rd.mk m1 rfl | exact Rd.mk m2 rfl | exact Rd.mk m3 rfl | assumption)) rfl ?_ | refine OpsD.takeNo 22 rfl (by kernel_rfl) rfl rfl (by first | exact H | exact H.drop | exact H.drop.drop | exact H.dropL | exact H.drop.dropL | exact H.dropL.drop | exact H.dropL.dropL | exact H.dropMid) rfl ?_ | refine OpsD.takeOff 22 rfl (by kernel_rfl) rfl rfl (by first | exact H | exact H.drop | exact H.drop.drop | exact H.dropL | exact H.drop.dropL | exact H.dropL.drop | exact H.dropL.dropL | exact H.dropMid) rfl ?_
      first | refine OpsD.takeYes 23 rfl (by kernel_rfl) rfl rfl (by first | exact H | exact H.drop | exact H.drop.drop | exact H.dropL | exact H.drop.dropL | exact H.dropL.drop | exact H.dropL.dropL | exact H.dropMid) (fun w H => Ev.move rfl) rfl ?_ | refine OpsD.takeNo 23 rfl (by kernel_rfl) rfl rfl (by first | exact H | exact H.drop | exact H.drop.drop | exact H.dropL | exact H.drop.dropL | exact H.dropL.drop | exact H.dropL.dropL | exact H.dropMid) rfl ?_ | refine OpsD.takeOff 23 rfl (by kernel_rfl) rfl rfl (by first | exact H | exact H.drop | exact H.drop.drop | exact H.dropL | exact H.drop.dropL | exact H.dropL.drop | exact H.dropL.dropL | exact H.dropMid) rfl ?_
      first | refine OpsD.takeYes 25 rfl (by kernel_rfl) rfl rfl (by first | exact H | exact H.drop | exact H.drop.drop | exact H.dropL | exact H.drop.dropL | exact H.dropL.drop | exact H.dropL.dropL | exact H.dropMid) (fun w H => Ev.fieldAddr (o := 0) rfl (by kernel_rfl)) rfl ?_ | refine OpsD.takeNo 25 rfl (by kernel_rfl) rfl rfl (by first | exact H | exact H.drop | exact H.drop.drop | exact H.dropL | exact H.drop.dropL | exact H.dropL.drop | exact H.dropL.dropL | exact H.dropMid) rfl ?_ | refine OpsD.takeOff 25 rfl (by kernel_rfl) rfl rfl (by first | exact H | exact H.drop | exact H.drop.drop | exact H.dropL | exact H.drop.dropL | exact H.dropL.drop | exact H.dropL.dropL | exact H.dropMid) rfl ?_
      first | refine OpsD.takeYes 26 rfl (by kernel_rfl) rfl rfl (by first | exact H | exact H.drop | exact H.drop.drop | exact H.dropL | exact H.drop.dropL | exact H.dropL.drop | exact H.dropL.dropL | exact H.dropMid) (fun w H => Ev.load H rfl (by kernel_rfl) (by first | exact Rd.mk m0 rfl | exact Rd.mk m1 rfl | exact Rd.mk m2 rfl | exact Rd.mk m3 rfl | assumption)) rfl ?_ | refine OpsD.takeNo 26 rfl (by kernel_rfl) rfl rfl (by first | exact H | exact H.drop | exact H.drop.drop | exact H.dropL | exact H.drop.dropL | exact H.dropL.drop | exact H.dropL.dropL | exact H.dropMid) rfl ?_ | refine OpsD.takeOff 26 rfl (by kernel_rfl) rfl rfl (by first | exact H | exact H.drop | exact H.drop.drop | exact H.dropL | exact H.drop.dropL | exact H.dropL.drop | exact H.dropL.dropL | exact H.dropMid) rfl ?_
      first | (refine OpsD.one 24 (by kernel_rfl) (StepD.exYes rfl rfl rfl (Ex.call rfl Tryz.call66 (pages_spec st p A w _ hA H.headL)) rfl ?_); (try clear H); rintro _ w ⟨rfl, H⟩; replace H := H.unmid; refine ⟨(by first | exact H | exact H.drop | exact H.drop.drop | exact H.dropL | exact H.drop.dropL | exact H.dropL.drop | exact H.dropL.dropL | exact H.dropMid), ?_⟩) | refine OpsD.takeNo 24 rfl (by kernel_rfl) rfl rfl (by first | exact H | exact H.drop | exact H.drop.drop | exact H.dropL | exact H.drop.dropL | exact H.dropL.drop | exact H.dropL.dropL | exact H.dropMid) rfl ?_ | refine OpsD.takeOff 24 rfl (by kernel_rfl) rfl rfl (by first | exact H | exact H.drop | exact H.drop.drop | exact H.dropL | exact H.drop.dropL | exact H.dropL.drop | exact H.dropL.dropL | exact H.dropMid) rfl ?_
      first | refine OpsD.takeYes 27 rfl (by kernel_rfl) rfl rfl (by first | exact H | exact H.drop | exact H.drop.drop | exact H.dropL | exact H.drop.dropL | exact H.dropL.drop | exact H.dropL.dropL | exact H.dropMid) (fun w H => Ev.sub rfl rfl) rfl ?_ | refine OpsD.takeNo 27 rfl (by kernel_rfl) rfl rfl (by first | exact H | exact H.drop | exact H.drop.drop | exact H.dropL | exact H.drop.dropL | exact H.dropL.drop | exact H.dropL.dropL | exact H.dropMid) rfl ?_ | refine OpsD.takeOff 27 rfl (by kernel_rfl) rfl rfl (by first | exact H | exact H.drop | exact H.drop.drop | exact H.dropL | exact H.drop.dropL | exact H.dropL.drop | exact H.dropL.dropL | exact H.dropMid) rfl ?_
      first | refine OpsD.takeYes 28 rfl (by kernel_rfl) rfl rfl (by first | exact H | exact H.drop | exact H.drop.drop | exact H.dropL | exact H.drop.dropL | exact H.dropL.drop | exact H.dropL.dropL | exact H.dropMid) (fun w H => Ev.leq rfl rfl) rfl ?_ | refine OpsD.takeNo 28 rfl (by kernel_rfl) rfl rfl (by first | exact H | exact H.drop | exact H.drop.drop | exact H.dropL | exact H.drop.dropL | exact H.dropL.drop | exact H.dropL.dropL | exact H.dropMid) rfl ?_ | refine OpsD.takeOff 28 rfl (by kernel_rfl) rfl rfl (by first | exact H | exact H.drop | exact H.drop.drop | exact H.dropL | exact H.drop.dropL | exact H.dropL.drop | exact H.dropL.dropL | exact H.dropMid) rfl ?_
      refine OpsD.take 29 rfl (by kernel_rfl) (by first | exact H | exact H.drop | exact H.drop.drop | exact H.dropL | exact H.drop.dropL | exact H.dropL.drop | exact H.dropL.dropL | exact H.dropMid) (fun w H => (by first | exact Ev.pickT rfl rfl | exact Ev.pickF rfl rfl)) rfl ?_
      refine OpsD.take 30 rfl (by kernel_rfl) (by first | exact H | exact H.drop | exact H.drop.drop | exact H.dropL | exact H.drop.dropL | exact H.dropL.drop | exact H.dropL.dropL | exact H.dropMid) (fun w H => Ev.assign rfl) rfl ?_
      refine OpsD.done (by kernel_rfl) ?_
      repeat (first | refine .seq ?_ | refine .skip ?_ | refine .block ?_ | refine .inBlock ?_ | refine .yes rfl ?_ | refine .no rfl ?_ | refine .exit rfl ?_)
      exact RunsE.ret1 Tryz.func33 rfl rfl ⟨by rw [decide_eq_false fun h => h2 h.2.1], H.drop⟩
  ·
    repeat (first | refine .seq ?_ | refine .skip ?_ | refine .block ?_ | refine .inBlock ?_ | refine .yes rfl ?_ | refine .no rfl ?_ | refine .exit rfl ?_)
    refine RunsE.drawS H [] (by kernel_rfl) ?_; (try clear H); intro w H
    refine OpsD.take 0 rfl (by kernel_rfl) H (fun w H => Ev.fieldAddr (o := 0) rfl (by kernel_rfl)) rfl ?_
    refine OpsD.take 1 rfl (by kernel_rfl) H (fun w H => Ev.load H rfl (by kernel_rfl) (by first | exact Rd.mk m0 rfl | exact Rd.mk m1 rfl | exact Rd.mk m2 rfl | exact Rd.mk m3 rfl | assumption)) rfl ?_
    refine OpsD.take 2 rfl (by kernel_rfl) H (fun w H => Ev.geq rfl rfl) rfl ?_
    refine OpsD.take 3 rfl (by kernel_rfl) H (fun w H => Ev.move rfl) rfl ?_
    first | refine OpsD.takeYes 4 rfl (by kernel_rfl) rfl rfl H (fun w H => Ev.fieldAddr (o := 1) rfl (by kernel_rfl)) rfl ?_ | refine OpsD.takeNo 4 rfl (by kernel_rfl) rfl rfl H rfl ?_ | refine OpsD.takeOff 4 rfl (by kernel_rfl) rfl rfl H rfl ?_
    first | refine OpsD.takeYes 5 rfl (by kernel_rfl) rfl rfl H (fun w H => Ev.load H rfl (by kernel_rfl) (by first | exact Rd.mk m0 rfl | exact Rd.mk m1 rfl | exact Rd.mk m2 rfl | exact Rd.mk m3 rfl | assumption)) rfl ?_ | refine OpsD.takeNo 5 rfl (by kernel_rfl) rfl rfl H rfl ?_ | refine OpsD.takeOff 5 rfl (by kernel_rfl) rfl rfl H rfl ?_
    first | refine OpsD.takeYes 6 rfl (by kernel_rfl) rfl rfl H (fun w H => Ev.geq rfl rfl) rfl ?_ | refine OpsD.takeNo 6 rfl (by kernel_rfl) rfl rfl H rfl ?_ | refine OpsD.takeOff 6 rfl (by kernel_rfl) rfl rfl H rfl ?_
    refine OpsD.take 7 rfl (by kernel_rfl) H (fun w H => (by first | exact Ev.pickT rfl rfl | exact Ev.pickF rfl rfl)) rfl ?_
    refine OpsD.take 8 rfl (by kernel_rfl) H (fun w H => Ev.move rfl) rfl ?_
    first | refine OpsD.takeYes 9 rfl (by kernel_rfl) rfl rfl H (fun w H => Ev.fieldAddr (o := 1) rfl (by kernel_rfl)) rfl ?_ | refine OpsD.takeNo 9 rfl (by kernel_rfl) rfl rfl H rfl ?_ | refine OpsD.takeOff 9 rfl (by kernel_rfl) rfl rfl H rfl ?_
    first | refine OpsD.takeYes 10 rfl (by kernel_rfl) rfl rfl H (fun w H => Ev.load H rfl (by kernel_rfl) (by first | exact Rd.mk m0 rfl | exact Rd.mk m1 rfl | exact Rd.mk m2 rfl | exact Rd.mk m3 rfl | assumption)) rfl ?_ | refine OpsD.takeNo 10 rfl (by kernel_rfl) rfl rfl H rfl ?_ | refine OpsD.takeOff 10 rfl (by kernel_rfl) rfl rfl H rfl ?_
    first | refine OpsD.takeYes 11 rfl (by kernel_rfl) rfl rfl H (fun w H => Ev.leq rfl rfl) rfl ?_ | refine OpsD.takeNo 11 rfl (by kernel_rfl) rfl rfl H rfl ?_ | refine OpsD.takeOff 11 rfl (by kernel_rfl) rfl rfl H rfl ?_
    refine OpsD.take 12 rfl (by kernel_rfl) H (fun w H => (by first | exact Ev.pickT rfl rfl | exact Ev.pickF rfl rfl)) rfl ?_
    refine OpsD.take 13 rfl (by kernel_rfl) H (fun w H => Ev.move rfl) rfl ?_
    first | refine OpsD.takeYes 14 rfl (by kernel_rfl) rfl rfl H (fun w H => Ev.fieldAddr (o := 0) rfl (by kernel_rfl)) rfl ?_ | refine OpsD.takeNo 14 rfl (by kernel_rfl) rfl rfl H rfl ?_ | refine OpsD.takeOff 14 rfl (by kernel_rfl) rfl rfl H rfl ?_
    first | refine OpsD.takeYes 15 rfl (by kernel_rfl) rfl rfl H (fun w H => Ev.load H rfl (by kernel_rfl) (by first | exact Rd.mk m0 rfl | exact Rd.mk m1 rfl | exact Rd.mk m2 rfl | exact Rd.mk m3 rfl | assumption)) rfl ?_ | refine OpsD.takeNo 15 rfl (by kernel_rfl) rfl rfl H rfl ?_ | refine OpsD.takeOff 15 rfl (by kernel_rfl) rfl rfl H rfl ?_
    first | refine OpsD.takeYes 16 rfl (by kernel_rfl) rfl rfl H (fun w H => Ev.move rfl) rfl ?_ | refine OpsD.takeNo 16 rfl (by kernel_rfl) rfl rfl H rfl ?_ | refine OpsD.takeOff 16 rfl (by kernel_rfl) rfl rfl H rfl ?_
    first | (refine OpsD.one 17 (by kernel_rfl) (StepD.exYes rfl rfl rfl (Ex.call rfl Tryz.call66 (pages_spec st p A w _ hA H.headL)) rfl ?_); (try clear H); rintro _ w ⟨rfl, H⟩; replace H := H.unmid; refine ⟨(by first | exact H | exact H.drop | exact H.drop.drop | exact H.dropL | exact H.drop.dropL | exact H.dropL.drop | exact H.dropL.dropL | exact H.dropMid), ?_⟩) | refine OpsD.takeNo 17 rfl (by kernel_rfl) rfl rfl H rfl ?_ | refine OpsD.takeOff 17 rfl (by kernel_rfl) rfl rfl H rfl ?_
    first | refine OpsD.takeYes 18 rfl (by kernel_rfl) rfl rfl (by first | exact H | exact H.drop | exact H.drop.drop | exact H.dropL | exact H.drop.dropL | exact H.dropL.drop | exact H.dropL.dropL | exact H.dropMid) (fun w H => Ev.leq rfl rfl) rfl ?_ | refine OpsD.takeNo 18 rfl (by kernel_rfl) rfl rfl (by first | exact H | exact H.drop | exact H.drop.drop | exact H.dropL | exact H.drop.dropL | exact H.dropL.drop | exact H.dropL.dropL | exact H.dropMid) rfl ?_ | refine OpsD.takeOff 18 rfl (by kernel_rfl) rfl rfl (by first | exact H | exact H.drop | exact H.drop.drop | exact H.dropL | exact H.drop.dropL | exact H.dropL.drop | exact H.dropL.dropL | exact H.dropMid) rfl ?_
    refine OpsD.take 19 rfl (by kernel_rfl) (by first | exact H | exact H.drop | exact H.drop.drop | exact H.dropL | exact H.drop.dropL | exact H.dropL.drop | exact H.dropL.dropL | exact H.dropMid) (fun w H => (by first | exact Ev.pickT rfl rfl | exact Ev.pickF rfl rfl)) rfl ?_
    refine OpsD.take 20 rfl (by kernel_rfl) (by first | exact H | exact H.drop | exact H.drop.drop | exact H.dropL | exact H.drop.dropL | exact H.dropL.drop | exact H.dropL.dropL | exact H.dropMid) (fun w H => Ev.move rfl) rfl ?_
    first | refine OpsD.takeYes 21 rfl (by kernel_rfl) rfl rfl (by first | exact H | exact H.drop | exact H.drop.drop | exact H.dropL | exact H.drop.dropL | exact H.dropL.drop | exact H.dropL.dropL | exact H.dropMid) (fun w H => Ev.fieldAddr (o := 1) rfl (by kernel_rfl)) rfl ?_ | refine OpsD.takeNo 21 rfl (by kernel_rfl) rfl rfl (by first | exact H | exact H.drop | exact H.drop.drop | exact H.dropL | exact H.drop.dropL | exact H.dropL.drop | exact H.dropL.dropL | exact H.dropMid) rfl ?_ | refine OpsD.takeOff 21 rfl (by kernel_rfl) rfl rfl (by first | exact H | exact H.drop | exact H.drop.drop | exact H.dropL | exact H.drop.dropL | exact H.dropL.drop | exact H.dropL.dropL | exact H.dropMid) rfl ?_
    first | refine OpsD.takeYes 22 rfl (by kernel_rfl) rfl rfl (by first | exact H | exact H.drop | exact H.drop.drop | exact H.dropL | exact H.drop.dropL | exact H.dropL.drop | exact H.dropL.dropL | exact H.dropMid) (fun w H => Ev.load H rfl (by kernel_rfl) (by first | exact Rd.mk m0 rfl | exact Rd.mk m1 rfl | exact Rd.mk m2 rfl | exact Rd.mk m3 rfl | assumption)) rfl ?_ | refine OpsD.takeNo 22 rfl (by kernel_rfl) rfl rfl (by first | exact H | exact H.drop | exact H.drop.drop | exact H.dropL | exact H.drop.dropL | exact H.dropL.drop | exact H.dropL.dropL | exact H.dropMid) rfl ?_ | refine OpsD.takeOff 22 rfl (by kernel_rfl) rfl rfl (by first | exact H | exact H.drop | exact H.drop.drop | exact H.dropL | exact H.drop.dropL | exact H.dropL.drop | exact H.dropL.dropL | exact H.dropMid) rfl ?_
    first | refine OpsD.takeYes 23 rfl (by kernel_rfl) rfl rfl (by first | exact H | exact H.drop | exact H.drop.drop | exact H.dropL | exact H.drop.dropL | exact H.dropL.drop | exact H.dropL.dropL | exact H.dropMid) (fun w H => Ev.move rfl) rfl ?_ | refine OpsD.takeNo 23 rfl (by kernel_rfl) rfl rfl (by first | exact H | exact H.drop | exact H.drop.drop | exact H.dropL | exact H.drop.dropL | exact H.dropL.drop | exact H.dropL.dropL | exact H.dropMid) rfl ?_ | refine OpsD.takeOff 23 rfl (by kernel_rfl) rfl rfl (by first | exact H | exact H.drop | exact H.drop.drop | exact H.dropL | exact H.drop.dropL | exact H.dropL.drop | exact H.dropL.dropL | exact H.dropMid) rfl ?_
    first | refine OpsD.takeYes 25 rfl (by kernel_rfl) rfl rfl (by first | exact H | exact H.drop | exact H.drop.drop | exact H.dropL | exact H.drop.dropL | exact H.dropL.drop | exact H.dropL.dropL | exact H.dropMid) (fun w H => Ev.fieldAddr (o := 0) rfl (by kernel_rfl)) rfl ?_ | refine OpsD.takeNo 25 rfl (by kernel_rfl) rfl rfl (by first | exact H | exact H.drop | exact H.drop.drop | exact H.dropL | exact H.drop.dropL | exact H.dropL.drop | exact H.dropL.dropL | exact H.dropMid) rfl ?_ | refine OpsD.takeOff 25 rfl (by kernel_rfl) rfl rfl (by first | exact H | exact H.drop | exact H.drop.drop | exact H.dropL | exact H.drop.dropL | exact H.dropL.drop | exact H.dropL.dropL | exact H.dropMid) rfl ?_
    first | refine OpsD.takeYes 26 rfl (by kernel_rfl) rfl rfl (by first | exact H | exact H.drop | exact H.drop.drop | exact H.dropL | exact H.drop.dropL | exact H.dropL.drop | exact H.dropL.dropL | exact H.dropMid) (fun w H => Ev.load H rfl (by kernel_rfl) (by first | exact Rd.mk m0 rfl | exact Rd.mk m1 rfl | exact Rd.mk m2 rfl | exact Rd.mk m3 rfl | assumption)) rfl ?_ | refine OpsD.takeNo 26 rfl (by kernel_rfl) rfl rfl (by first | exact H | exact H.drop | exact H.drop.drop | exact H.dropL | exact H.drop.dropL | exact H.dropL.drop | exact H.dropL.dropL | exact H.dropMid) rfl ?_ | refine OpsD.takeOff 26 rfl (by kernel_rfl) rfl rfl (by first | exact H | exact H.drop | exact H.drop.drop | exact H.dropL | exact H.drop.dropL | exact H.dropL.drop | exact H.dropL.dropL | exact H.dropMid) rfl ?_
    first | (refine OpsD.one 24 (by kernel_rfl) (StepD.exYes rfl rfl rfl (Ex.call rfl Tryz.call66 (pages_spec st p A w _ hA H.headL)) rfl ?_); (try clear H); rintro _ w ⟨rfl, H⟩; replace H := H.unmid; refine ⟨(by first | exact H | exact H.drop | exact H.drop.drop | exact H.dropL | exact H.drop.dropL | exact H.dropL.drop | exact H.dropL.dropL | exact H.dropMid), ?_⟩) | refine OpsD.takeNo 24 rfl (by kernel_rfl) rfl rfl (by first | exact H | exact H.drop | exact H.drop.drop | exact H.dropL | exact H.drop.dropL | exact H.dropL.drop | exact H.dropL.dropL | exact H.dropMid) rfl ?_ | refine OpsD.takeOff 24 rfl (by kernel_rfl) rfl rfl (by first | exact H | exact H.drop | exact H.drop.drop | exact H.dropL | exact H.drop.dropL | exact H.dropL.drop | exact H.dropL.dropL | exact H.dropMid) rfl ?_
    first | refine OpsD.takeYes 27 rfl (by kernel_rfl) rfl rfl (by first | exact H | exact H.drop | exact H.drop.drop | exact H.dropL | exact H.drop.dropL | exact H.dropL.drop | exact H.dropL.dropL | exact H.dropMid) (fun w H => Ev.sub rfl rfl) rfl ?_ | refine OpsD.takeNo 27 rfl (by kernel_rfl) rfl rfl (by first | exact H | exact H.drop | exact H.drop.drop | exact H.dropL | exact H.drop.dropL | exact H.dropL.drop | exact H.dropL.dropL | exact H.dropMid) rfl ?_ | refine OpsD.takeOff 27 rfl (by kernel_rfl) rfl rfl (by first | exact H | exact H.drop | exact H.drop.drop | exact H.dropL | exact H.drop.dropL | exact H.dropL.drop | exact H.dropL.dropL | exact H.dropMid) rfl ?_
    first | refine OpsD.takeYes 28 rfl (by kernel_rfl) rfl rfl (by first | exact H | exact H.drop | exact H.drop.drop | exact H.dropL | exact H.drop.dropL | exact H.dropL.drop | exact H.dropL.dropL | exact H.dropMid) (fun w H => Ev.leq rfl rfl) rfl ?_ | refine OpsD.takeNo 28 rfl (by kernel_rfl) rfl rfl (by first | exact H | exact H.drop | exact H.drop.drop | exact H.dropL | exact H.drop.dropL | exact H.dropL.drop | exact H.dropL.dropL | exact H.dropMid) rfl ?_ | refine OpsD.takeOff 28 rfl (by kernel_rfl) rfl rfl (by first | exact H | exact H.drop | exact H.drop.drop | exact H.dropL | exact H.drop.dropL | exact H.dropL.drop | exact H.dropL.dropL | exact H.dropMid) rfl ?_
    refine OpsD.take 29 rfl (by kernel_rfl) (by first | exact H | exact H.drop | exact H.drop.drop | exact H.dropL | exact H.drop.dropL | exact H.dropL.drop | exact H.dropL.dropL | exact H.dropMid) (fun w H => (by first | exact Ev.pickT rfl rfl | exact Ev.pickF rfl rfl)) rfl ?_
    refine OpsD.take 30 rfl (by kernel_rfl) (by first | exact H | exact H.drop | exact H.drop.drop | exact H.dropL | exact H.drop.dropL | exact H.dropL.drop | exact H.dropL.dropL | exact H.dropMid) (fun w H => Ev.assign rfl) rfl ?_
    refine OpsD.done (by kernel_rfl) ?_
    repeat (first | refine .seq ?_ | refine .skip ?_ | refine .block ?_ | refine .inBlock ?_ | refine .yes rfl ?_ | refine .no rfl ?_ | refine .exit rfl ?_)
    exact RunsE.ret1 Tryz.func33 rfl rfl ⟨by rw [decide_eq_false fun h => h1 h.1], H.drop⟩

theorem or_spec [Strm] (s : Nat) (w : World) (F : List (Nat × Obj)) (H : SL w F) : Does Tryz.prog 34 #[.pointer (some ⟨s, 0, none⟩), .nilIface] w fun r w' => r = .tuple #[.pointer (some ⟨s, 0, none⟩), .nilIface] ∧ SL w' F := by
  refine Does.intro (args := [_, _]) (e := [(0, _), (1, _)]) Tryz.func34 rfl Tryz.ntmps34 rfl rfl ?_
  repeat (first | refine .seq ?_ | refine .skip ?_ | refine .block ?_ | refine .inBlock ?_ | refine .yes rfl ?_ | refine .no rfl ?_ | refine .exit rfl ?_)
  repeat (first | refine .seq ?_ | refine .skip ?_ | refine .block ?_ | refine .inBlock ?_ | refine .yes rfl ?_ | refine .no rfl ?_ | refine .exit rfl ?_)
  refine RunsE.region ?_
  refine OpsE.ev (Ev.assign rfl) rfl ?_
  refine OpsE.ev (Ev.assign rfl) rfl ?_
  refine OpsE.nil ?_
  repeat (first | refine .seq ?_ | refine .skip ?_ | refine .block ?_ | refine .inBlock ?_ | refine .yes rfl ?_ | refine .no rfl ?_ | refine .exit rfl ?_)
  refine RunsE.region ?_
  refine OpsE.ev (Ev.move rfl) rfl ?_
  refine OpsE.ev (Ev.errNe (n := 0) rfl rfl) rfl ?_
  refine OpsE.nil ?_
  repeat (first | refine .seq ?_ | refine .skip ?_ | refine .block ?_ | refine .inBlock ?_ | refine .yes rfl ?_ | refine .no rfl ?_ | refine .exit rfl ?_)
  repeat (first | refine .seq ?_ | refine .skip ?_ | refine .block ?_ | refine .inBlock ?_ | refine .yes rfl ?_ | refine .no rfl ?_ | refine .exit rfl ?_)
  refine RunsE.region ?_
  refine OpsE.ev (Ev.move rfl) rfl ?_
  refine OpsE.ev (Ev.assign rfl) rfl ?_
  refine OpsE.ev (Ev.assign rfl) rfl ?_
  refine OpsE.nil ?_
  repeat (first | refine .seq ?_ | refine .skip ?_ | refine .block ?_ | refine .inBlock ?_ | refine .yes rfl ?_ | refine .no rfl ?_ | refine .exit rfl ?_)
  exact RunsE.ret2 Tryz.func34 rfl rfl rfl ⟨rfl, H⟩

set_option maxHeartbeats 2000000 in
theorem sread_spec [Strm] (s p fr count m dead : Nat) (o : Obj) (st : St) (l : List Lf) (place : Nat) (A : List (Nat × Obj)) (hd : st.down = false) (hpl : fr + place < st.P.length) (hQl : st.Q.length ≤ 1000000) (w : World) (X : List (Nat × Obj)) (hs : (s, shO p fr count m dead) ∈ X) (ho : Mp o (kvL l)) (hA : HoldS p st A) (H : SL w (A ++ ((m, o) :: X))) :
    Does Tryz.prog 38 #[.pointer (some ⟨s, 0, none⟩), .int .i64 (place : Int)] w fun r w' =>
      if doneM (bytesM 4096 (bytesM 4096 (st.page (fr + place), 0)).1).1 ≠ 0 ∨ (findL l (bytesM 4096 (st.page (fr + place), 0)).2).isSome = true then r = EV 14 ∧ SL w' (A ++ ((m, o) :: X))
      else ∃ o', r = .nilIface ∧ Mp o' (kvL (insK Lf.key l ⟨(bytesM 4096 (st.page (fr + place), 0)).2, (bytesM 4096 (bytesM 4096 (st.page (fr + place), 0)).1).2, place⟩)) ∧ SL w' (A ++ ((m, o') :: X)) := by
  have hok := hA.ok
  have hP := hok.pages
  have hsz := page_sz hok (fr + place)
  have hrd : st.read ((fr + place : Nat) : Int) = (st.page (fr + place), 0) := by
    rw [read_up (by unfold St.has; simp; omega) hd, Int.toNat_natCast]
  obtain ⟨line, hline⟩ : ∃ line, line = st.page (fr + place) := ⟨_, rfl⟩
  rw [← hline] at hrd hsz ⊢
  have hs' : ∀ {Q : List (Nat × Obj)}, (s, shO p fr count m dead) ∈ Q ++ ((m, o) :: X) := List.mem_append_right _ (.tail _ hs)
  refine Does.intro (args := [_, _]) (e := [(0, _), (1, _)]) Tryz.func38 rfl Tryz.ntmps38 rfl rfl ?_
  repeat (first | refine .seq ?_ | refine .skip ?_ | refine .block ?_ | refine .inBlock ?_ | refine .yes rfl ?_ | refine .no rfl ?_ | refine .exit rfl ?_)
  repeat (first | refine .seq ?_ | refine .skip ?_ | refine .block ?_ | refine .inBlock ?_ | refine .yes rfl ?_ | refine .no rfl ?_ | refine .exit rfl ?_)
  refine RunsE.region ?_
  refine OpsE.ev (Ev.assign rfl) rfl ?_
  refine OpsE.nil ?_
  repeat (first | refine .seq ?_ | refine .skip ?_ | refine .block ?_ | refine .inBlock ?_ | refine .yes rfl ?_ | refine .no rfl ?_ | refine .exit rfl ?_)
  refine RunsE.drawS H [11] (by kernel_rfl) ?_; (try clear H); intro w H
  refine OpsD.take 0 rfl (by kernel_rfl) H (fun w H => Ev.move rfl) rfl ?_
  refine OpsD.take 1 rfl (by kernel_rfl) H (fun w H => Ev.nilCheck rfl) rfl ?_
  refine OpsD.take 2 rfl (by kernel_rfl) H (fun w H => Ev.fieldAddr (o := 0) rfl (by kernel_rfl)) rfl ?_
  refine OpsD.take 3 rfl (by kernel_rfl) H (fun w H => Ev.load H rfl (by kernel_rfl) (Rd.mk hs' rfl)) rfl ?_
  refine OpsD.take 4 rfl (by kernel_rfl) H (fun w H => Ev.move rfl) rfl ?_
  refine OpsD.take 5 rfl (by kernel_rfl) H (fun w H => Ev.nilCheck rfl) rfl ?_
  refine OpsD.take 6 rfl (by kernel_rfl) H (fun w H => Ev.fieldAddr (o := 1) rfl (by kernel_rfl)) rfl ?_
  refine OpsD.take 7 rfl (by kernel_rfl) H (fun w H => Ev.fieldAddr (o := 0) rfl (by kernel_rfl)) rfl ?_
  refine OpsD.take 8 rfl (by kernel_rfl) H (fun w H => Ev.load H rfl (by kernel_rfl) (Rd.mk hs' rfl)) rfl ?_
  refine OpsD.take 9 rfl (by kernel_rfl) H (fun w H => Ev.move rfl) rfl ?_
  refine OpsD.take 10 rfl (by kernel_rfl) H (fun w H => Ev.add (c := ((fr + place : Nat) : Int)) rfl rfl (by rw [qi64 (by omega) (by omega)]; omega)) rfl ?_
  refine OpsD.one 11 (by kernel_rfl) (StepD.exT rfl rfl (Ex.call rfl Tryz.call23 (read_spec st ((fr + place : Nat) : Int) p A hQl w _ hA H)) rfl ?_); (try clear H); rintro _ w ⟨vb, Bb, rfl, hsb, H⟩; rw [hrd] at hsb
  refine OpsD.takeU 12 rfl (by kernel_rfl) (fun w => Ev.move rfl) rfl ?_
  refine OpsD.takeU 13 rfl (by kernel_rfl) (fun w => Ev.extract rfl rfl) rfl ?_
  refine OpsD.takeU 14 rfl (by kernel_rfl) (fun w => Ev.extract rfl rfl) rfl ?_
  refine OpsD.takeU 15 rfl (by kernel_rfl) (fun w => Ev.assign rfl) rfl ?_
  refine OpsD.takeU 16 rfl (by kernel_rfl) (fun w => Ev.assign rfl) rfl ?_
  refine OpsD.done (by kernel_rfl) ?_
  rw [hrd]
  repeat (first | refine .seq ?_ | refine .skip ?_ | refine .block ?_ | refine .inBlock ?_ | refine .yes rfl ?_ | refine .no rfl ?_ | refine .exit rfl ?_)
  refine RunsE.region ?_
  refine OpsE.ev (Ev.move rfl) rfl ?_
  refine OpsE.ev (Ev.errNe (n := 0) rfl rfl) rfl ?_
  refine OpsE.nil ?_
  repeat (first | refine .seq ?_ | refine .skip ?_ | refine .block ?_ | refine .inBlock ?_ | refine .yes rfl ?_ | refine .no rfl ?_ | refine .exit rfl ?_)
  obtain ⟨ab, cb, rfl, hcb⟩ := hsb.leCap
  repeat (first | refine .seq ?_ | refine .skip ?_ | refine .block ?_ | refine .inBlock ?_ | refine .yes rfl ?_ | refine .no rfl ?_ | refine .exit rfl ?_)
  refine RunsE.region ?_
  refine OpsE.ev (Ev.move rfl) rfl ?_
  refine OpsE.ex (Ex.call rfl Tryz.call35 (rread_spec _ w _ H ⟨_, _, _, rfl⟩)) rfl ?_; (try clear H); rintro _ w ⟨br, rfl, H⟩
  refine OpsE.ev (Ev.assign rfl) rfl ?_
  refine OpsE.nil ?_
  obtain ⟨Z, hZ⟩ : ∃ Z, Z = Bb ++ (A ++ ((m, o) :: X)) := ⟨_, rfl⟩
  rw [← hZ] at H
  have hin : Inp Z (.slice ab line.length cb) line := by rw [hZ]; exact hsb.inp
  obtain ⟨K, hK⟩ : ∃ K, K = bytesM 4096 (line, 0) := ⟨_, rfl⟩
  obtain ⟨V, hV⟩ : ∃ V, V = bytesM 4096 K.1 := ⟨_, rfl⟩
  rw [← hK, ← hV]
  repeat refine RunsE.seq ?_
  refine RunsE.join (fun _ : Unit => [(0, .pointer (some ⟨s, 0, none⟩)), (1, .int .i64 (place : Int)), (7, .pointer (some ⟨br, 0, none⟩)), (8, sV K.2), (9, sV V.2)])
    (fun _ w => ∃ k, k ≤ line.length ∧ line.drop k = V.1.1 ∧ SL w ((br, rdO (.slice ab line.length cb) k V.1.2) :: Z)) (fun next => ?_) ?_
  ·
    repeat (first | refine .seq ?_ | refine .skip ?_ | refine .block ?_ | refine .inBlock ?_ | refine .yes rfl ?_ | refine .no rfl ?_ | refine .exit rfl ?_)
    refine RunsE.drawS H [1, 2, 4, 5] (by kernel_rfl) ?_; (try clear H); intro w H
    refine OpsD.take 0 rfl (by kernel_rfl) H (fun w H => Ev.move rfl) rfl ?_
    refine OpsD.takeU 3 rfl (by kernel_rfl) (fun w => Ev.move rfl) rfl ?_
    refine OpsD.one 1 (by kernel_rfl) (StepD.exT rfl rfl (Ex.call rfl Tryz.call71 (rbytes_spec br _ line 0 0 4096 (by decide) (by omega) (by omega) w Z hin H)) rfl ?_); (try clear H); rintro v1 w ⟨k1, B1, hk1, hd1, hs1, H⟩; rw [List.drop_zero, ← hK] at hd1 hs1 H; replace H := H.unmid
    refine OpsD.two 2 4 (by kernel_rfl) (StepD.exT rfl rfl (Ev.ex (Ev.inpStr (bs := K.2) (el := 5) H rfl (Inp.sub hs1.inp (L := B1 ++ []) fun q hq => by simp only [List.append_nil] at hq; first | exact .tail _ (List.mem_append_left _ hq) | exact List.mem_append_right _ (.tail _ (List.mem_append_left _ hq))) Tryz.underlying29 Tryz.underlying5 Tryz.underlying9)) rfl ?_) (StepD.exT rfl rfl (Ex.call rfl Tryz.call71 (rbytes_spec br _ line k1 K.1.2 4096 (by decide) hk1 (by omega) w (B1 ++ Z) hin.right H)) rfl ?_)
    · rintro _ _ ⟨rfl, rfl⟩
      refine OpsD.one 4 (by kernel_rfl) (StepD.exT rfl rfl (Ex.call rfl Tryz.call71 (rbytes_spec br _ line k1 K.1.2 4096 (by decide) hk1 (by omega) w (B1 ++ Z) hin.right H)) rfl ?_); (try clear H); rintro v2 w ⟨k2, B2, hk2, hd2, hs2, H⟩; rw [hd1, show (K.1.1, K.1.2) = K.1 from rfl, ← hV] at hd2 hs2 H
      refine OpsD.takeU 6 rfl (by kernel_rfl) (fun w => Ev.assign rfl) rfl ?_
      refine OpsD.one 5 (by kernel_rfl) (StepD.exT rfl rfl (Ev.ex (Ev.inpStr (bs := V.2) (el := 5) H rfl hs2.inp Tryz.underlying29 Tryz.underlying5 Tryz.underlying9)) rfl ?_); rintro _ _ ⟨rfl, rfl⟩
      refine OpsD.takeU 7 rfl (by kernel_rfl) (fun w => Ev.assign rfl) rfl ?_
      refine OpsD.done (by kernel_rfl) ?_
      exact next () _ _ ⟨k2, hk2, hd2, H.less (B1 ++ B2) (perm_of fun a => by simp only [List.count_append, List.count_cons]; omega)⟩ ⟨rfl, rfl, rfl, rfl, rfl, trivial⟩
    · (try clear H); rintro v2 w ⟨k2, B2, hk2, hd2, hs2, H⟩; rw [hd1, show (K.1.1, K.1.2) = K.1 from rfl, ← hV] at hd2 hs2 H
      refine OpsD.two 2 5 (by kernel_rfl) (StepD.exT rfl rfl (Ev.ex (Ev.inpStr (bs := K.2) (el := 5) H rfl (Inp.sub hs1.inp (L := B1 ++ []) fun q hq => by simp only [List.append_nil] at hq; first | exact .tail _ (List.mem_append_left _ hq) | exact List.mem_append_right _ (.tail _ (List.mem_append_left _ hq))) Tryz.underlying29 Tryz.underlying5 Tryz.underlying9)) rfl ?_) (StepD.exT rfl rfl (Ev.ex (Ev.inpStr (bs := V.2) (el := 5) H rfl hs2.inp Tryz.underlying29 Tryz.underlying5 Tryz.underlying9)) rfl ?_)
      · rintro _ _ ⟨rfl, rfl⟩
        refine OpsD.takeU 6 rfl (by kernel_rfl) (fun w => Ev.assign rfl) rfl ?_
        refine OpsD.one 5 (by kernel_rfl) (StepD.exT rfl rfl (Ev.ex (Ev.inpStr (bs := V.2) (el := 5) H rfl hs2.inp Tryz.underlying29 Tryz.underlying5 Tryz.underlying9)) rfl ?_); rintro _ _ ⟨rfl, rfl⟩
        refine OpsD.takeU 7 rfl (by kernel_rfl) (fun w => Ev.assign rfl) rfl ?_
        refine OpsD.done (by kernel_rfl) ?_
        exact next () _ _ ⟨k2, hk2, hd2, H.less (B1 ++ B2) (perm_of fun a => by simp only [List.count_append, List.count_cons]; omega)⟩ ⟨rfl, rfl, rfl, rfl, rfl, trivial⟩
      · rintro _ _ ⟨rfl, rfl⟩
        refine OpsD.one 2 (by kernel_rfl) (StepD.exT rfl rfl (Ev.ex (Ev.inpStr (bs := K.2) (el := 5) H rfl (Inp.sub hs1.inp (L := B1 ++ []) fun q hq => by simp only [List.append_nil] at hq; first | exact .tail _ (List.mem_append_left _ hq) | exact List.mem_append_right _ (.tail _ (List.mem_append_left _ hq))) Tryz.underlying29 Tryz.underlying5 Tryz.underlying9)) rfl ?_); rintro _ _ ⟨rfl, rfl⟩
        refine OpsD.takeU 6 rfl (by kernel_rfl) (fun w => Ev.assign rfl) rfl ?_
        refine OpsD.takeU 7 rfl (by kernel_rfl) (fun w => Ev.assign rfl) rfl ?_
        refine OpsD.done (by kernel_rfl) ?_
        exact next () _ _ ⟨k2, hk2, hd2, H.less (B1 ++ B2) (perm_of fun a => by simp only [List.count_append, List.count_cons]; omega)⟩ ⟨rfl, rfl, rfl, rfl, rfl, trivial⟩
  clear H
  rintro _ w ⟨k, hk, hdk, H⟩
  have hsZ : (s, shO p fr count m dead) ∈ Z := by rw [hZ]; exact List.mem_append_right _ hs'
  have hmZ : (m, o) ∈ Z := by rw [hZ]; exact List.mem_append_right _ (List.mem_append_right _ (.head _))
  repeat (first | refine .seq ?_ | refine .skip ?_ | refine .block ?_ | refine .inBlock ?_ | refine .yes rfl ?_ | refine .no rfl ?_ | refine .exit rfl ?_)
  refine RunsE.region ?_
  refine OpsE.ev (Ev.move rfl) rfl ?_
  refine OpsE.ev (Ev.nilCheck rfl) rfl ?_
  refine OpsE.ev (Ev.fieldAddr (o := 3) rfl (by kernel_rfl)) rfl ?_
  refine OpsE.ev (Ev.load H rfl (by kernel_rfl) (Rd.mk (.tail _ hsZ) rfl)) rfl ?_
  refine OpsE.ev (Ev.move rfl) rfl ?_
  refine OpsE.ev (Ev.lookLf H rfl rfl (.tail _ hmZ) ho (.refl _)) rfl ?_
  refine OpsE.ev (Ev.move rfl) rfl ?_
  refine OpsE.ev (Ev.extract rfl rfl) rfl ?_
  refine OpsE.ev (Ev.extract rfl rfl) rfl ?_
  refine OpsE.ex (Ex.alloc (zv := .agg #[.int .i64 0, .string .empty]) H (by kernel_rfl)) rfl ?_; (try clear H); rintro _ w ⟨b10, rfl, H⟩; simp only [Value.cells] at H
  refine OpsE.exn (Ex.storeBlk (n := 2) H rfl rfl (by kernel_rfl) (by first | rfl | simp) (by simp [Value.oneCell']) u0 (by first | rfl | simp) (Thaw.zero _ _)) ?_; (try clear H); intro _ w H
  refine OpsE.ev (Ev.assign rfl) rfl ?_
  refine OpsE.nil ?_
  have hdone : doneM (line.drop k, V.1.2) = doneM V.1 := by rw [hdk]
  cases hf : (findL l K.2).isSome with
  | true =>
    repeat (first | refine .seq ?_ | refine .skip ?_ | refine .block ?_ | refine .inBlock ?_ | refine .yes rfl ?_ | refine .no rfl ?_ | refine .exit rfl ?_)
    refine RunsE.region ?_
    refine OpsE.ev (Ev.move rfl) rfl ?_
    refine OpsE.ev (Ev.move rfl) rfl ?_
    first | (refine OpsE.yes rfl rfl ?_; refine OpsE.ev (Ev.move rfl) rfl ?_) | refine OpsE.no rfl rfl rfl ?_ | refine OpsE.off rfl rfl rfl ?_
    first | (refine OpsE.yes rfl rfl ?_; refine OpsE.ex (Ex.call rfl Tryz.call39 (?spec)) rfl ?_; (try clear H); rintro _ w ⟨rfl, H⟩) | refine OpsE.no rfl rfl rfl ?_ | refine OpsE.off rfl rfl rfl ?_
    first | (refine OpsE.yes rfl rfl ?_; refine OpsE.ev ((?op_binOp)) rfl ?_) | refine OpsE.no rfl rfl rfl ?_ | refine OpsE.off rfl rfl rfl ?_
    refine OpsE.ev ((by first | exact Ev.pickT rfl rfl | exact Ev.pickF rfl rfl)) rfl ?_
    refine OpsE.nil ?_
    repeat (first | refine .seq ?_ | refine .skip ?_ | refine .block ?_ | refine .inBlock ?_ | refine .yes rfl ?_ | refine .no rfl ?_ | refine .exit rfl ?_)
    repeat (first | refine .seq ?_ | refine .skip ?_ | refine .block ?_ | refine .inBlock ?_ | refine .yes rfl ?_ | refine .no rfl ?_ | refine .exit rfl ?_)
    refine RunsE.region ?_
    refine OpsE.ev (Ev.makeInterface (d := (.int .i64)) rfl (by kernel_rfl) rfl) rfl ?_
    refine OpsE.ev (Ev.assign rfl) rfl ?_
    refine OpsE.nil ?_
    repeat (first | refine .seq ?_ | refine .skip ?_ | refine .block ?_ | refine .inBlock ?_ | refine .yes rfl ?_ | refine .no rfl ?_ | refine .exit rfl ?_)
    rw [hZ] at H
    refine RunsE.ret1 Tryz.func38 rfl rfl ?_
    rw [if_pos (.inr rfl)]
    exact ⟨rfl, H.drop.drop.dropL⟩
  | false =>
    by_cases hdn : doneM V.1 = 0
    · replace H := H.drop
      repeat (first | refine .seq ?_ | refine .skip ?_ | refine .block ?_ | refine .inBlock ?_ | refine .yes rfl ?_ | refine .no rfl ?_ | refine .exit rfl ?_)
      refine RunsE.region ?_
      refine OpsE.ev (Ev.move rfl) rfl ?_
      refine OpsE.ev (Ev.move rfl) rfl ?_
      first | (refine OpsE.yes rfl rfl ?_; refine OpsE.ev (Ev.move rfl) rfl ?_) | refine OpsE.no rfl rfl rfl ?_ | refine OpsE.off rfl rfl rfl ?_
      first | (refine OpsE.yes rfl rfl ?_; refine OpsE.ex (Ex.call rfl Tryz.call39 (rdone_spec br _ line k V.1.2 hk (by omega) w Z hin H)) rfl ?_; (try clear H); rintro _ w ⟨rfl, H⟩; rw [hdone, hdn]) | refine OpsE.no rfl rfl rfl ?_ | refine OpsE.off rfl rfl rfl ?_
      first | (refine OpsE.yes rfl rfl ?_; refine OpsE.ev (Ev.errNe (n := 0) rfl rfl) rfl ?_) | refine OpsE.no rfl rfl rfl ?_ | refine OpsE.off rfl rfl rfl ?_
      refine OpsE.ev ((by first | exact Ev.pickT rfl rfl | exact Ev.pickF rfl rfl)) rfl ?_
      refine OpsE.nil ?_
      repeat (first | refine .seq ?_ | refine .skip ?_ | refine .block ?_ | refine .inBlock ?_ | refine .yes rfl ?_ | refine .no rfl ?_ | refine .exit rfl ?_)
      rw [hZ] at H
      replace H : SL w ((m, o) :: (A ++ X)) := H.less ((br, rdO (.slice ab line.length cb) k V.1.2) :: Bb) (perm_of fun a => by simp only [List.count_append, List.count_cons]; omega)
      repeat (first | refine .seq ?_ | refine .skip ?_ | refine .block ?_ | refine .inBlock ?_ | refine .yes rfl ?_ | refine .no rfl ?_ | refine .exit rfl ?_)
      refine RunsE.region ?_
      refine OpsE.ev (Ev.move rfl) rfl ?_
      refine OpsE.ev (Ev.nilCheck rfl) rfl ?_
      refine OpsE.ev (Ev.fieldAddr (o := 3) rfl (by kernel_rfl)) rfl ?_
      refine OpsE.ev (Ev.load H rfl (by kernel_rfl) (Rd.mk (.tail _ (List.mem_append_right _ hs)) rfl)) rfl ?_
      refine OpsE.ev (Ev.move rfl) rfl ?_
      refine OpsE.ev (Ev.move rfl) rfl ?_
      refine OpsE.ev (Ev.move rfl) rfl ?_
      refine OpsE.ev (Ev.buildSt (pl := [(0, 1), (1, 1)]) (zv := .agg #[.int .i64 0, .string .empty]) rfl (by kernel_rfl) (by kernel_rfl) rfl) rfl ?_
      refine OpsE.exn (Ex.mapUpdateS (M := fun o => (m, o) :: (A ++ X)) (u := leafV ⟨K.2, V.2, place⟩) H mapLf rfl rfl rfl (fun o' => .head) ho) ?_; (try clear H); rintro _ w ⟨o', ho', H⟩
      refine OpsE.nil ?_
      repeat (first | refine .seq ?_ | refine .skip ?_ | refine .block ?_ | refine .inBlock ?_ | refine .yes rfl ?_ | refine .no rfl ?_ | refine .exit rfl ?_)
      refine RunsE.region ?_
      refine OpsE.ev (Ev.assign rfl) rfl ?_
      refine OpsE.nil ?_
      repeat (first | refine .seq ?_ | refine .skip ?_ | refine .block ?_ | refine .inBlock ?_ | refine .yes rfl ?_ | refine .no rfl ?_ | refine .exit rfl ?_)
      refine RunsE.ret1 Tryz.func38 rfl rfl ?_
      rw [if_neg (by rintro (h | h) <;> first | exact h rfl | exact h hdn | cases h)]
      refine ⟨o', rfl, ho'.perm ?_, H.perm (perm_of fun a => by simp only [List.count_append, List.count_cons]; omega)⟩
      have hnone : ∀ y ∈ l, y.key ≠ K.2 := fun y hy he => by
        have h1 : findL l K.2 = none := by simpa using hf
        unfold findL at h1
        rw [List.find?_eq_none] at h1
        exact h1 y hy (decide_eq_true he)
      unfold putK
      rw [List.filter_eq_self.2 (fun q hq => by
        obtain ⟨y, hy, rfl⟩ := List.mem_map.1 hq
        exact decide_eq_true (hnone y hy))]
      exact ((insK_perm Lf.key l ⟨K.2, V.2, place⟩).symm.map fun y : Lf => (y.key, leafV y))
    · replace H := H.drop
      repeat (first | refine .seq ?_ | refine .skip ?_ | refine .block ?_ | refine .inBlock ?_ | refine .yes rfl ?_ | refine .no rfl ?_ | refine .exit rfl ?_)
      refine RunsE.region ?_
      refine OpsE.ev (Ev.move rfl) rfl ?_
      refine OpsE.ev (Ev.move rfl) rfl ?_
      first | (refine OpsE.yes rfl rfl ?_; refine OpsE.ev (Ev.move rfl) rfl ?_) | refine OpsE.no rfl rfl rfl ?_ | refine OpsE.off rfl rfl rfl ?_
      first | (refine OpsE.yes rfl rfl ?_; refine OpsE.ex (Ex.call rfl Tryz.call39 (rdone_spec br _ line k V.1.2 hk (by omega) w Z hin H)) rfl ?_; (try clear H); rintro _ w ⟨rfl, H⟩; rw [hdone]) | refine OpsE.no rfl rfl rfl ?_ | refine OpsE.off rfl rfl rfl ?_
      first | (refine OpsE.yes rfl rfl ?_; refine OpsE.ev (Ev.errNe (r := true) rfl (decide_eq_true hdn)) rfl ?_) | refine OpsE.no rfl rfl rfl ?_ | refine OpsE.off rfl rfl rfl ?_
      refine OpsE.ev ((by first | exact Ev.pickT rfl rfl | exact Ev.pickF rfl rfl)) rfl ?_
      refine OpsE.nil ?_
      repeat (first | refine .seq ?_ | refine .skip ?_ | refine .block ?_ | refine .inBlock ?_ | refine .yes rfl ?_ | refine .no rfl ?_ | refine .exit rfl ?_)
      repeat (first | refine .seq ?_ | refine .skip ?_ | refine .block ?_ | refine .inBlock ?_ | refine .yes rfl ?_ | refine .no rfl ?_ | refine .exit rfl ?_)
      refine RunsE.region ?_
      refine OpsE.ev (Ev.makeInterface (d := (.int .i64)) rfl (by kernel_rfl) rfl) rfl ?_
      refine OpsE.ev (Ev.assign rfl) rfl ?_
      refine OpsE.nil ?_
      repeat (first | refine .seq ?_ | refine .skip ?_ | refine .block ?_ | refine .inBlock ?_ | refine .yes rfl ?_ | refine .no rfl ?_ | refine .exit rfl ?_)
      rw [hZ] at H
      refine RunsE.ret1 Tryz.func38 rfl rfl ?_
      rw [if_pos (.inl hdn)]
      exact ⟨rfl, H.drop.dropL⟩

end Go.Proofs.YtflfaiakenahlaaGreatDoor
end

section
/-
  The shelf, walked: Open.
-/
namespace Go.Proofs.YtflfaiakenahlaaGreatDoor
open Go.Proofs.YtflfaiakenahlaaGreatDoor.V

theorem openBad_spec [Strm] (p : Nat) (fr count : Int) (b1 : -9223372036854775808 ≤ fr) (b2 : fr ≤ 9223372036854775807) (st : St) (A : List (Nat × Obj)) (w : World) (X : List (Nat × Obj)) (hbad : ¬ (0 ≤ fr ∧ 2 ≤ count ∧ count ≤ 1024 ∧ fr ≤ st.P.length ∧ count ≤ st.P.length - fr)) (hA : HoldS p st A) (H : SL w (A ++ X)) :
    Does Tryz.prog 11 #[.pointer (some ⟨p, 0, none⟩), .agg #[.int .i64 fr, .int .i64 count]] w fun r w' => r = .tuple #[.pointer none, EV 1] ∧ SL w' (A ++ X) := by
  refine Does.intro (args := [_, _]) (e := [(0, _), (1, _)]) Tryz.func11 rfl Tryz.ntmps11 rfl rfl ?_
  repeat (first | refine .seq ?_ | refine .skip ?_ | refine .block ?_ | refine .inBlock ?_ | refine .yes rfl ?_ | refine .no rfl ?_ | refine .exit rfl ?_)
  repeat (first | refine .seq ?_ | refine .skip ?_ | refine .block ?_ | refine .inBlock ?_ | refine .yes rfl ?_ | refine .no rfl ?_ | refine .exit rfl ?_)
  refine RunsE.region ?_
  refine OpsE.ex (Ex.box H rfl) rfl ?_; (try clear H); rintro _ w ⟨b3, rfl, H⟩; simp only [Value.cells] at H; replace H := H.mid
  refine OpsE.ev (Ev.assign rfl) rfl ?_
  refine OpsE.ev (Ev.assign rfl) rfl ?_
  refine OpsE.nil ?_
  repeat (first | refine .seq ?_ | refine .skip ?_ | refine .block ?_ | refine .inBlock ?_ | refine .yes rfl ?_ | refine .no rfl ?_ | refine .exit rfl ?_)
  refine RunsE.region ?_
  refine OpsE.ev (Ev.move rfl) rfl ?_
  refine OpsE.ev (Ev.ptrNilEq (el := 75) rfl rfl (by kernel_rfl)) rfl ?_
  refine OpsE.ev (Ev.move rfl) rfl ?_
  first | (refine OpsE.yes rfl rfl ?_; refine OpsE.ev (Ev.loadBlk (n := 2) (vs := [.int .i64 fr, .int .i64 count]) H rfl (by kernel_rfl) rfl (List.mem_append_right _ (.head _))) rfl ?_) | refine OpsE.no rfl rfl rfl ?_ | refine OpsE.off rfl rfl rfl ?_
  first | (refine OpsE.yes rfl rfl ?_; refine OpsE.ev (Ev.move rfl) rfl ?_) | refine OpsE.no rfl rfl rfl ?_ | refine OpsE.off rfl rfl rfl ?_
  first | (refine OpsE.yes rfl rfl ?_; refine OpsE.ex (Ex.call rfl Tryz.call33 (may_spec fr count b1 b2 st p A w _ hA H)) rfl ?_; (try clear H); rintro r w ⟨hr, H⟩; rw [decide_eq_false hbad] at hr; subst hr) | refine OpsE.no rfl rfl rfl ?_ | refine OpsE.off rfl rfl rfl ?_
  first | (refine OpsE.yes rfl rfl ?_; refine OpsE.ev (Ev.not rfl) rfl ?_) | refine OpsE.no rfl rfl rfl ?_ | refine OpsE.off rfl rfl rfl ?_
  refine OpsE.ev ((by first | exact Ev.pickT rfl rfl | exact Ev.pickF rfl rfl)) rfl ?_
  refine OpsE.nil ?_
  repeat (first | refine .seq ?_ | refine .skip ?_ | refine .block ?_ | refine .inBlock ?_ | refine .yes rfl ?_ | refine .no rfl ?_ | refine .exit rfl ?_)
  repeat (first | refine .seq ?_ | refine .skip ?_ | refine .block ?_ | refine .inBlock ?_ | refine .yes rfl ?_ | refine .no rfl ?_ | refine .exit rfl ?_)
  refine RunsE.region ?_
  refine OpsE.ev (Ev.makeInterface (d := (.int .i64)) rfl (by kernel_rfl) rfl) rfl ?_
  refine OpsE.ev (Ev.assign rfl) rfl ?_
  refine OpsE.ev (Ev.assign rfl) rfl ?_
  refine OpsE.nil ?_
  repeat (first | refine .seq ?_ | refine .skip ?_ | refine .block ?_ | refine .inBlock ?_ | refine .yes rfl ?_ | refine .no rfl ?_ | refine .exit rfl ?_)
  exact RunsE.ret2 Tryz.func11 rfl rfl rfl ⟨rfl, H.dropMid⟩

set_option maxHeartbeats 4000000 in
theorem open_spec [Strm] (p fr count : Nat) (st : St) (A : List (Nat × Obj)) (hd : st.down = false) (hc1 : 2 ≤ count) (hc : count ≤ 256) (hr : fr + count ≤ st.P.length) (hQl : st.Q.length ≤ 1000000) (w : World) (X : List (Nat × Obj)) (hA : HoldS p st A) (H : SL w (A ++ X)) :
    Does Tryz.prog 11 #[.pointer (some ⟨p, 0, none⟩), .agg #[.int .i64 (fr : Int), .int .i64 (count : Int)]] w fun r w' =>
      (openM count (fun i => st.page (fr + i)) = none ∧ r = .tuple #[.pointer none, EV 14] ∧ SL w' (A ++ X)) ∨
      (∃ l s m o, openM count (fun i => st.page (fr + i)) = some l ∧ r = .tuple #[.pointer (some ⟨s, 0, none⟩), .nilIface] ∧ Mp o (kvL l) ∧ SL w' ((s, shO p fr count m 0) :: (m, o) :: (A ++ X))) := by
  have hok := hA.ok
  have hP := hok.pages
  have hrd : st.read ((fr : Nat) : Int) = (st.page fr, 0) := by
    rw [read_up (by unfold St.has; simp; omega) hd, Int.toNat_natCast]
  have hsz := page_sz hok fr
  obtain ⟨pg, hpg0⟩ : ∃ pg : Nat → List UInt8, pg = fun i => st.page (fr + i) := ⟨_, rfl⟩
  have hpg : ∀ i, st.page (fr + i) = pg i := fun i => by rw [hpg0]
  rw [← hpg0]
  clear hpg0
  obtain ⟨line, hline⟩ : ∃ line, line = pg 0 := ⟨_, rfl⟩
  have hl0 : st.page fr = line := by rw [hline, ← hpg, Nat.add_zero]
  rw [hl0] at hrd hsz
  have hopen : openM count pg = openM count pg := rfl
  conv at hopen => rhs; unfold openM
  rw [← hline] at hopen
  obtain ⟨R, hR⟩ : ∃ R, R = openM count pg := ⟨_, rfl⟩
  rw [← hR] at hopen ⊢
  clear hR
  refine Does.intro (args := [_, _]) (e := [(0, _), (1, _)]) Tryz.func11 rfl Tryz.ntmps11 rfl rfl ?_
  repeat (first | refine .seq ?_ | refine .skip ?_ | refine .block ?_ | refine .inBlock ?_ | refine .yes rfl ?_ | refine .no rfl ?_ | refine .exit rfl ?_)
  repeat (first | refine .seq ?_ | refine .skip ?_ | refine .block ?_ | refine .inBlock ?_ | refine .yes rfl ?_ | refine .no rfl ?_ | refine .exit rfl ?_)
  refine RunsE.region ?_
  refine OpsE.ex (Ex.box H rfl) rfl ?_; (try clear H); rintro _ w ⟨b3, rfl, H⟩; simp only [Value.cells] at H; replace H := H.mid
  refine OpsE.ev (Ev.assign rfl) rfl ?_
  refine OpsE.ev (Ev.assign rfl) rfl ?_
  refine OpsE.nil ?_
  obtain ⟨X1, hX1⟩ : ∃ X1, X1 = (b3, Obj.cells #[.int .i64 (fr : Int), .int .i64 (count : Int)] 35 (0, 0)) :: X := ⟨_, rfl⟩
  rw [← hX1] at H
  have hb3 : (b3, Obj.cells #[.int .i64 (fr : Int), .int .i64 (count : Int)] 35 (0, 0)) ∈ X1 := by rw [hX1]; exact .head _
  repeat (first | refine .seq ?_ | refine .skip ?_ | refine .block ?_ | refine .inBlock ?_ | refine .yes rfl ?_ | refine .no rfl ?_ | refine .exit rfl ?_)
  refine RunsE.region ?_
  refine OpsE.ev (Ev.move rfl) rfl ?_
  refine OpsE.ev (Ev.ptrNilEq (el := 75) rfl rfl (by kernel_rfl)) rfl ?_
  refine OpsE.ev (Ev.move rfl) rfl ?_
  first | (refine OpsE.yes rfl rfl ?_; refine OpsE.ev (Ev.loadBlk (n := 2) (vs := [.int .i64 fr, .int .i64 count]) H rfl (by kernel_rfl) rfl (List.mem_append_right _ hb3)) rfl ?_) | refine OpsE.no rfl rfl rfl ?_ | refine OpsE.off rfl rfl rfl ?_
  first | (refine OpsE.yes rfl rfl ?_; refine OpsE.ev (Ev.move rfl) rfl ?_) | refine OpsE.no rfl rfl rfl ?_ | refine OpsE.off rfl rfl rfl ?_
  first | (refine OpsE.yes rfl rfl ?_; refine OpsE.ex (Ex.call rfl Tryz.call33 (may_spec (fr : Int) (count : Int) (by omega) (by omega) st p A w _ hA H)) rfl ?_; (try clear H); rintro r w ⟨hr, H⟩; rw [decide_eq_true ⟨by omega, by omega, by omega, by omega, by omega⟩] at hr; subst hr) | refine OpsE.no rfl rfl rfl ?_ | refine OpsE.off rfl rfl rfl ?_
  first | (refine OpsE.yes rfl rfl ?_; refine OpsE.ev (Ev.not rfl) rfl ?_) | refine OpsE.no rfl rfl rfl ?_ | refine OpsE.off rfl rfl rfl ?_
  refine OpsE.ev ((by first | exact Ev.pickT rfl rfl | exact Ev.pickF rfl rfl)) rfl ?_
  refine OpsE.nil ?_
  repeat (first | refine .seq ?_ | refine .skip ?_ | refine .block ?_ | refine .inBlock ?_ | refine .yes rfl ?_ | refine .no rfl ?_ | refine .exit rfl ?_)
  repeat (first | refine .seq ?_ | refine .skip ?_ | refine .block ?_ | refine .inBlock ?_ | refine .yes rfl ?_ | refine .no rfl ?_ | refine .exit rfl ?_)
  refine RunsE.region ?_
  refine OpsE.ev (Ev.move rfl) rfl ?_
  refine OpsE.ev (Ev.loadBlk (n := 2) (vs := [.int .i64 fr, .int .i64 count]) H rfl (by kernel_rfl) rfl (List.mem_append_right _ hb3)) rfl ?_
  refine OpsE.ex (Ex.makeMapS H) rfl ?_; (try clear H); rintro _ w ⟨m, o, rfl, ho, H⟩
  refine OpsE.ev (Ev.buildSt (pl := [(0, 1), (1, 2), (3, 1), (4, 1)]) (zv := .agg #[.pointer none, .int .i64 0, .int .i64 0, .map none, .nilIface]) rfl (by kernel_rfl) (by kernel_rfl) rfl) rfl ?_
  refine OpsE.ex (Ex.box H rfl) rfl ?_; (try clear H); rintro _ w ⟨s, rfl, H⟩; simp only [Value.cells] at H
  refine OpsE.ev (Ev.assign rfl) rfl ?_
  refine OpsE.nil ?_
  replace H : SL w ((s, shO p fr count m 0) :: (m, o) :: (A ++ X1)) := H
  obtain ⟨X2, hX2⟩ : ∃ X2, X2 = (s, shO p fr count m 0) :: X1 := ⟨_, rfl⟩
  replace H : SL w (A ++ ((m, o) :: X2)) := H.perm (by rw [hX2]; exact perm_of fun a => by simp only [List.count_append, List.count_cons]; omega)
  have hb3' : (b3, Obj.cells #[.int .i64 (fr : Int), .int .i64 (count : Int)] 35 (0, 0)) ∈ X2 := by rw [hX2]; exact .tail _ hb3
  have hs2 : (s, shO p fr count m 0) ∈ X2 := by rw [hX2]; exact .head _
  have hfin : ∀ {w : World} {o : Obj}, SL w (A ++ ((m, o) :: X2)) → SL w ((s, shO p fr count m 0) :: (m, o) :: (A ++ X)) := fun {w o} H => by
    refine H.less [(b3, Obj.cells #[.int .i64 (fr : Int), .int .i64 (count : Int)] 35 (0, 0))] (perm_of fun a => ?_)
    rw [hX2, hX1]
    simp only [List.count_append, List.count_cons, List.count_nil]
    omega
  have hfin0 : ∀ {w : World} {o : Obj}, SL w (A ++ ((m, o) :: X2)) → SL w (A ++ X) := fun H => (hfin H).drop.drop
  clear hX2 hX1 hb3
  repeat (first | refine .seq ?_ | refine .skip ?_ | refine .block ?_ | refine .inBlock ?_ | refine .yes rfl ?_ | refine .no rfl ?_ | refine .exit rfl ?_)
  refine RunsE.region ?_
  refine OpsE.ev (Ev.move rfl) rfl ?_
  refine OpsE.ev (Ev.fieldAddr (o := 0) rfl (by kernel_rfl)) rfl ?_
  refine OpsE.ev (Ev.load H rfl (by kernel_rfl) (Rd.mk (List.mem_append_right _ (.tail _ hb3')) rfl)) rfl ?_
  refine OpsE.ex (Ex.call rfl Tryz.call23 (read_spec st ((fr : Nat) : Int) p A hQl w _ hA H)) rfl ?_; (try clear H); rintro _ w ⟨vb, Bb, rfl, hsb, H⟩; rw [hrd] at hsb
  refine OpsE.ev (Ev.move rfl) rfl ?_
  refine OpsE.ev (Ev.extract rfl rfl) rfl ?_
  refine OpsE.ev (Ev.extract rfl rfl) rfl ?_
  refine OpsE.ev (Ev.assign rfl) rfl ?_
  refine OpsE.ev (Ev.assign rfl) rfl ?_
  refine OpsE.nil ?_
  rw [hrd]
  obtain ⟨ab, cb, rfl, hcb⟩ := hsb.leCap
  by_cases hl : line = []
  · rw [if_pos hl] at hopen
    repeat (first | refine .seq ?_ | refine .skip ?_ | refine .block ?_ | refine .inBlock ?_ | refine .yes rfl ?_ | refine .no rfl ?_ | refine .exit rfl ?_)
    refine RunsE.region ?_
    refine OpsE.ev (Ev.move rfl) rfl ?_
    refine OpsE.ev (Ev.errNe (n := 0) rfl rfl) rfl ?_
    refine OpsE.ev (Ev.move rfl) rfl ?_
    first | (refine OpsE.yes rfl rfl ?_; refine OpsE.ev (Ev.move rfl) rfl ?_) | refine OpsE.no rfl rfl rfl ?_ | refine OpsE.off rfl rfl rfl ?_
    first | (refine OpsE.yes rfl rfl ?_; refine OpsE.ev (Ev.lenSl (d := 5) rfl rfl (by kernel_rfl)) rfl ?_) | refine OpsE.no rfl rfl rfl ?_ | refine OpsE.off rfl rfl rfl ?_
    first | (refine OpsE.yes rfl rfl ?_; refine OpsE.ev (Ev.eql (r := true) rfl rfl (by rw [hl]; rfl)) rfl ?_) | refine OpsE.no rfl rfl rfl ?_ | refine OpsE.off rfl rfl rfl ?_
    refine OpsE.ev ((by first | exact Ev.pickT rfl rfl | exact Ev.pickF rfl rfl)) rfl ?_
    refine OpsE.nil ?_
    repeat (first | refine .seq ?_ | refine .skip ?_ | refine .block ?_ | refine .inBlock ?_ | refine .yes rfl ?_ | refine .no rfl ?_ | refine .exit rfl ?_)
    repeat (first | refine .seq ?_ | refine .skip ?_ | refine .block ?_ | refine .inBlock ?_ | refine .yes rfl ?_ | refine .no rfl ?_ | refine .exit rfl ?_)
    refine RunsE.region ?_
    refine OpsE.ev (Ev.move rfl) rfl ?_
    refine OpsE.ev (Ev.move rfl) rfl ?_
    refine OpsE.ex (Ex.call rfl Tryz.call34 (or_spec s w _ H)) rfl ?_; (try clear H); rintro _ w ⟨rfl, H⟩
    refine OpsE.ev (Ev.extract rfl rfl) rfl ?_
    refine OpsE.ev (Ev.extract rfl rfl) rfl ?_
    refine OpsE.ev (Ev.assign rfl) rfl ?_
    refine OpsE.ev (Ev.assign rfl) rfl ?_
    refine OpsE.nil ?_
    repeat (first | refine .seq ?_ | refine .skip ?_ | refine .block ?_ | refine .inBlock ?_ | refine .yes rfl ?_ | refine .no rfl ?_ | refine .exit rfl ?_)
    exact RunsE.ret2 Tryz.func11 rfl rfl rfl (.inr ⟨[], s, m, o, hopen, rfl, ho, hfin H.dropL⟩)
  rw [if_neg hl] at hopen
  have hpos : 0 < line.length := List.length_pos_iff.2 hl
  repeat (first | refine .seq ?_ | refine .skip ?_ | refine .block ?_ | refine .inBlock ?_ | refine .yes rfl ?_ | refine .no rfl ?_ | refine .exit rfl ?_)
  refine RunsE.region ?_
  refine OpsE.ev (Ev.move rfl) rfl ?_
  refine OpsE.ev (Ev.errNe (n := 0) rfl rfl) rfl ?_
  refine OpsE.ev (Ev.move rfl) rfl ?_
  first | (refine OpsE.yes rfl rfl ?_; refine OpsE.ev (Ev.move rfl) rfl ?_) | refine OpsE.no rfl rfl rfl ?_ | refine OpsE.off rfl rfl rfl ?_
  first | (refine OpsE.yes rfl rfl ?_; refine OpsE.ev (Ev.lenSl (d := 5) rfl rfl (by kernel_rfl)) rfl ?_) | refine OpsE.no rfl rfl rfl ?_ | refine OpsE.off rfl rfl rfl ?_
  first | (refine OpsE.yes rfl rfl ?_; refine OpsE.ev (Ev.eql (r := false) rfl rfl (beq_eq_false_iff_ne.2 (by simp only; omega))) rfl ?_) | refine OpsE.no rfl rfl rfl ?_ | refine OpsE.off rfl rfl rfl ?_
  refine OpsE.ev ((by first | exact Ev.pickT rfl rfl | exact Ev.pickF rfl rfl)) rfl ?_
  refine OpsE.nil ?_
  repeat (first | refine .seq ?_ | refine .skip ?_ | refine .block ?_ | refine .inBlock ?_ | refine .yes rfl ?_ | refine .no rfl ?_ | refine .exit rfl ?_)
  repeat (first | refine .seq ?_ | refine .skip ?_ | refine .block ?_ | refine .inBlock ?_ | refine .yes rfl ?_ | refine .no rfl ?_ | refine .exit rfl ?_)
  refine RunsE.region ?_
  refine OpsE.ev (Ev.move rfl) rfl ?_
  refine OpsE.ex (Ex.call rfl Tryz.call35 (rread_spec _ w _ H ⟨_, _, _, rfl⟩)) rfl ?_; (try clear H); rintro _ w ⟨br, rfl, H⟩
  refine OpsE.ev (Ev.assign rfl) rfl ?_
  refine OpsE.nil ?_
  have hin : ∀ {Y : List (Nat × Obj)}, Inp (Bb ++ Y) (.slice ab line.length cb) line := hsb.inp
  repeat (first | refine .seq ?_ | refine .skip ?_ | refine .block ?_ | refine .inBlock ?_ | refine .yes rfl ?_ | refine .no rfl ?_ | refine .exit rfl ?_)
  refine RunsE.region ?_
  refine OpsE.ev (Ev.assign rfl) rfl ?_
  refine OpsE.nil ?_
  obtain ⟨K, hK⟩ : ∃ K, K = countM (count - 1) (line, 0) := ⟨_, rfl⟩
  have hKle := countM_le (count - 1) (line, 0)
  rw [← hK] at hopen hKle
  have hb3'' : ∀ {Q Q' : List (Nat × Obj)} {x y : Nat × Obj}, (b3, Obj.cells #[.int .i64 (fr : Int), .int .i64 (count : Int)] 35 (0, 0)) ∈ x :: (Q ++ (Q' ++ (y :: X2))) := fun {Q Q' x y} => .tail _ (List.mem_append_right _ (List.mem_append_right _ (.tail _ hb3')))
  repeat (first | refine .seq ?_ | refine .skip ?_ | refine .block ?_ | refine .inBlock ?_ | refine .yes rfl ?_ | refine .no rfl ?_ | refine .exit rfl ?_)
  refine RunsE.region ?_
  refine OpsE.ev (Ev.move rfl) rfl ?_
  refine OpsE.ev (Ev.fieldAddr (o := 1) rfl (by kernel_rfl)) rfl ?_
  refine OpsE.ev (Ev.load H rfl (by kernel_rfl) (Rd.mk hb3'' rfl)) rfl ?_
  refine OpsE.ev (Ev.sub (c := ((count - 1 : Nat) : Int)) rfl rfl (by rw [qi64 (by omega) (by omega)]; omega)) rfl ?_
  refine OpsE.ex (Ex.call rfl Tryz.call36 (rcount_spec br _ line 0 0 (count - 1) (by omega) (by omega) (by omega) w _ hin H)) rfl ?_; (try clear H); rintro _ w ⟨k, hk, hdk, rfl, H⟩; rw [List.drop_zero, ← hK] at hdk H
  refine OpsE.ev (Ev.move rfl) rfl ?_
  refine OpsE.nil ?_
  rw [List.drop_zero, ← hK]
  have hdr : ∀ {w : World} {k e : Nat} {o : Obj}, SL w ((br, rdO (.slice ab line.length cb) k e) :: (Bb ++ (A ++ ((m, o) :: X2)))) → SL w (A ++ ((m, o) :: X2)) := fun H => H.drop.dropL
  repeat refine RunsE.seq ?_
  refine RunsE.join (fun _ : Unit => [(6, .pointer (some ⟨s, 0, none⟩)), (9, .pointer (some ⟨br, 0, none⟩))])
    (fun _ w => ∃ k R1 l o, k ≤ line.length ∧ R1.1 = line.drop k ∧ openLoop count pg K.2 K.1 0 [] = some (R1, l) ∧ Mp o (kvL l) ∧ SL w ((br, rdO (.slice ab line.length cb) k R1.2) :: (Bb ++ (A ++ ((m, o) :: X2))))) (fun next => ?_) ?_
  · refine RunsE.block ?_
    refine RunsE.loop (fun u : Nat × Nat => [(3, .pointer (some ⟨b3, 0, none⟩)), (6, .pointer (some ⟨s, 0, none⟩)), (9, .pointer (some ⟨br, 0, none⟩)), (10, .int .i64 (u.2 : Int)), (52, .int .i64 (K.2 : Int)), (53, .int .i64 (u.1 : Int))])
      (fun u w => ∃ k R1 l o, u.1 ≤ K.2 ∧ k ≤ line.length ∧ R1.1 = line.drop k ∧ openLoop count pg K.2 K.1 0 [] = openLoop count pg (K.2 - u.1) R1 u.2 l ∧ Mp o (kvL l) ∧ SL w ((br, rdO (.slice ab line.length cb) k R1.2) :: (Bb ++ (A ++ ((m, o) :: X2)))))
      (fun u => K.2 - u.1) (0, 0) ⟨rfl, rfl, rfl, rfl, rfl, rfl, trivial⟩ ⟨k, K.1, [], o, by omega, hk, hdk.symm, rfl, ho, H⟩ ?_
    clear H ho
    rintro ⟨i, last⟩ w ⟨k, R1, l, o, hi, hk, hR1, hlp, ho, H⟩ nextL
    simp only at hi hlp
    by_cases h1 : i = K.2
    ·
      repeat (first | refine .seq ?_ | refine .skip ?_ | refine .block ?_ | refine .inBlock ?_ | refine .yes rfl ?_ | refine .no rfl ?_ | refine .exit rfl ?_)
      refine RunsE.region ?_
      refine OpsE.ev (Ev.lss (r := false) rfl rfl (decide_eq_false (by simp only; omega))) rfl ?_
      refine OpsE.nil ?_
      repeat refine RunsE.seq ?_
      refine RunsE.no rfl ?_
      refine RunsE.exit rfl ?_
      rw [h1, Nat.sub_self] at hlp
      exact next () _ _ ⟨k, R1, l, o, hk, hR1, hlp, ho, H⟩ ⟨rfl, rfl, trivial⟩
    · clear next
      rw [show K.2 - i = (K.2 - (i + 1)) + 1 by omega] at hlp
      conv at hlp => rhs; unfold openLoop
      obtain ⟨V, hV⟩ : ∃ V, V = uintM (count - 1) R1 := ⟨_, rfl⟩
      have hVle := uintM_le (count - 1) R1
      rw [← hV] at hlp hVle
      have hR1' : (line.drop k, R1.2) = R1 := by rw [← hR1]
      repeat (first | refine .seq ?_ | refine .skip ?_ | refine .block ?_ | refine .inBlock ?_ | refine .yes rfl ?_ | refine .no rfl ?_ | refine .exit rfl ?_)
      refine RunsE.region ?_
      refine OpsE.ev (Ev.lss (r := true) rfl rfl (decide_eq_true (by simp only; omega))) rfl ?_
      refine OpsE.nil ?_
      repeat (first | refine .seq ?_ | refine .skip ?_ | refine .block ?_ | refine .inBlock ?_ | refine .yes rfl ?_ | refine .no rfl ?_ | refine .exit rfl ?_)
      repeat (first | refine .seq ?_ | refine .skip ?_ | refine .block ?_ | refine .inBlock ?_ | refine .yes rfl ?_ | refine .no rfl ?_ | refine .exit rfl ?_)
      refine RunsE.region ?_
      refine OpsE.ev (Ev.move rfl) rfl ?_
      refine OpsE.ev (Ev.fieldAddr (o := 1) rfl (by kernel_rfl)) rfl ?_
      refine OpsE.ev (Ev.load H rfl (by kernel_rfl) (Rd.mk hb3'' rfl)) rfl ?_
      refine OpsE.ev (Ev.sub (c := ((count - 1 : Nat) : Int)) rfl rfl (by rw [qi64 (by omega) (by omega)]; omega)) rfl ?_
      refine OpsE.ev (Ev.conv (c := ((count - 1 : Nat) : Int)) (k' := .u64) rfl (by kernel_rfl) (by kernel_rfl) (qu64 (by omega) (by omega))) rfl ?_
      refine OpsE.ex (Ex.call rfl Tryz.call37 (ruint_spec br _ line k R1.2 (count - 1) hk (by omega) w _ hin H)) rfl ?_; (try clear H); rintro _ w ⟨k1, hk1, hdk1, rfl, H⟩; rw [hR1', ← hV] at hdk1 H
      refine OpsE.ev (Ev.conv (c := (V.2 : Int)) (k' := .i64) (by rw [hR1', ← hV]; rfl) (by kernel_rfl) (by kernel_rfl) (qi64 (by omega) (by omega))) rfl ?_
      refine OpsE.ev (Ev.assign rfl) rfl ?_
      refine OpsE.nil ?_
      repeat (first | refine .seq ?_ | refine .skip ?_ | refine .block ?_ | refine .inBlock ?_ | refine .yes rfl ?_ | refine .no rfl ?_ | refine .exit rfl ?_)
      refine RunsE.region ?_
      refine OpsE.ev (Ev.move rfl) rfl ?_
      refine OpsE.ev (Ev.move rfl) rfl ?_
      refine OpsE.ev (Ev.leq (r := decide (V.2 ≤ last)) rfl rfl (by rw [Bool.eq_iff_iff, decide_eq_true_iff, decide_eq_true_iff]; simp only; omega)) rfl ?_
      refine OpsE.nil ?_
      by_cases h2 : V.2 ≤ last
      · repeat refine RunsE.seq ?_
        refine RunsE.yes (by rw [decide_eq_true h2]; rfl) ?_
        repeat (first | refine .seq ?_ | refine .skip ?_ | refine .block ?_ | refine .inBlock ?_ | refine .yes rfl ?_ | refine .no rfl ?_ | refine .exit rfl ?_)
        refine RunsE.region ?_
        refine OpsE.ev (Ev.makeInterface (d := (.int .i64)) rfl (by kernel_rfl) rfl) rfl ?_
        refine OpsE.ev (Ev.assign rfl) rfl ?_
        refine OpsE.ev (Ev.assign rfl) rfl ?_
        refine OpsE.nil ?_
        repeat (first | refine .seq ?_ | refine .skip ?_ | refine .block ?_ | refine .inBlock ?_ | refine .yes rfl ?_ | refine .no rfl ?_ | refine .exit rfl ?_)
        rw [if_pos h2] at hlp
        rw [hlp] at hopen
        exact RunsE.ret2 Tryz.func11 rfl rfl rfl (.inl ⟨hopen, rfl, hfin0 (hdr H)⟩)
      repeat refine RunsE.seq ?_
      refine RunsE.no (by rw [decide_eq_false h2]; rfl) ?_
      rw [if_neg h2] at hlp
      refine RunsE.skip ?_
      obtain ⟨D, hD⟩ : ∃ D, D = (br, rdO (.slice ab line.length cb) k1 V.1.2) :: Bb := ⟨_, rfl⟩
      replace H : SL w (A ++ ((m, o) :: (D ++ X2))) := H.perm (by rw [hD]; exact perm_of fun a => by simp only [List.count_append, List.count_cons]; omega)
      have hbk : ∀ {w : World} {o : Obj}, SL w (A ++ ((m, o) :: (D ++ X2))) → SL w ((br, rdO (.slice ab line.length cb) k1 V.1.2) :: (Bb ++ (A ++ ((m, o) :: X2)))) := fun H => H.perm (by rw [hD]; exact perm_of fun a => by simp only [List.count_append, List.count_cons]; omega)
      repeat (first | refine .seq ?_ | refine .skip ?_ | refine .block ?_ | refine .inBlock ?_ | refine .yes rfl ?_ | refine .no rfl ?_ | refine .exit rfl ?_)
      refine RunsE.region ?_
      refine OpsE.ev (Ev.move rfl) rfl ?_
      refine OpsE.ev (Ev.assign rfl) rfl ?_
      refine OpsE.nil ?_
      repeat (first | refine .seq ?_ | refine .skip ?_ | refine .block ?_ | refine .inBlock ?_ | refine .yes rfl ?_ | refine .no rfl ?_ | refine .exit rfl ?_)
      refine RunsE.region ?_
      refine OpsE.ev (Ev.move rfl) rfl ?_
      refine OpsE.ev (Ev.move rfl) rfl ?_
      refine OpsE.ex (Ex.call rfl Tryz.call38 (sread_spec s p fr count m 0 o st l V.2 A hd (by omega) hQl w _ (List.mem_append_right _ hs2) ho hA H)) rfl ?_; rintro r w hpost; rw [hpg] at hpost
      refine OpsE.ev (Ev.assign rfl) rfl ?_
      refine OpsE.nil ?_
      by_cases h3 : doneM (bytesM 4096 (bytesM 4096 (pg V.2, 0)).1).1 ≠ 0 ∨ (findL l (bytesM 4096 (pg V.2, 0)).2).isSome = true
      · rw [if_pos h3] at hpost hlp
        obtain ⟨rfl, H⟩ := hpost
        repeat (first | refine .seq ?_ | refine .skip ?_ | refine .block ?_ | refine .inBlock ?_ | refine .yes rfl ?_ | refine .no rfl ?_ | refine .exit rfl ?_)
        refine RunsE.region ?_
        refine OpsE.ev (Ev.move rfl) rfl ?_
        refine OpsE.ev (Ev.errNe (n := 14) rfl rfl) rfl ?_
        refine OpsE.nil ?_
        repeat (first | refine .seq ?_ | refine .skip ?_ | refine .block ?_ | refine .inBlock ?_ | refine .yes rfl ?_ | refine .no rfl ?_ | refine .exit rfl ?_)
        repeat (first | refine .seq ?_ | refine .skip ?_ | refine .block ?_ | refine .inBlock ?_ | refine .yes rfl ?_ | refine .no rfl ?_ | refine .exit rfl ?_)
        refine RunsE.region ?_
        refine OpsE.ev (Ev.move rfl) rfl ?_
        refine OpsE.ev (Ev.assign rfl) rfl ?_
        refine OpsE.ev (Ev.assign rfl) rfl ?_
        refine OpsE.nil ?_
        repeat (first | refine .seq ?_ | refine .skip ?_ | refine .block ?_ | refine .inBlock ?_ | refine .yes rfl ?_ | refine .no rfl ?_ | refine .exit rfl ?_)
        rw [hlp] at hopen
        exact RunsE.ret2 Tryz.func11 rfl rfl rfl (.inl ⟨hopen, rfl, hfin0 (hdr (hbk H))⟩)
      · rw [if_neg h3] at hpost hlp
        obtain ⟨o', rfl, ho', H⟩ := hpost
        repeat (first | refine .seq ?_ | refine .skip ?_ | refine .block ?_ | refine .inBlock ?_ | refine .yes rfl ?_ | refine .no rfl ?_ | refine .exit rfl ?_)
        refine RunsE.region ?_
        refine OpsE.ev (Ev.move rfl) rfl ?_
        refine OpsE.ev (Ev.errNe (n := 0) rfl rfl) rfl ?_
        refine OpsE.nil ?_
        repeat refine RunsE.seq ?_
        refine RunsE.no rfl ?_
        refine RunsE.skip ?_
        refine RunsE.inBlock ?_
        repeat (first | refine .seq ?_ | refine .skip ?_ | refine .block ?_ | refine .inBlock ?_ | refine .yes rfl ?_ | refine .no rfl ?_ | refine .exit rfl ?_)
        refine RunsE.region ?_
        refine OpsE.ev (Ev.add (c := ((i + 1 : Nat) : Int)) rfl rfl (by simp only; rw [qi64 (by omega) (by omega)]; omega)) rfl ?_
        refine OpsE.ev (Ev.move rfl) rfl ?_
        refine OpsE.nil ?_
        exact nextL (i + 1, V.2) _ _ (by simp only; omega) ⟨k1, V.1, _, o', by simp only; omega, hk1, hdk1.symm, hlp, ho', hbk H⟩ ⟨rfl, rfl, rfl, rfl, rfl, rfl, trivial⟩
  clear H ho
  rintro _ w ⟨k, R1, l, o, hk, hR1, hlp, ho, H⟩
  rw [hlp] at hopen
  have hR1' : (line.drop k, R1.2) = R1 := by rw [← hR1]
  repeat (first | refine .seq ?_ | refine .skip ?_ | refine .block ?_ | refine .inBlock ?_ | refine .yes rfl ?_ | refine .no rfl ?_ | refine .exit rfl ?_)
  refine RunsE.region ?_
  refine OpsE.ev (Ev.move rfl) rfl ?_
  refine OpsE.ex (Ex.call rfl Tryz.call39 (rdone_spec br _ line k R1.2 hk (by omega) w _ hin H)) rfl ?_; (try clear H); rintro _ w ⟨rfl, H⟩
  refine OpsE.ev (Ev.errNe rfl rfl) rfl ?_
  refine OpsE.nil ?_
  rw [hR1']
  by_cases h4 : doneM R1 = 0
  · repeat refine RunsE.seq ?_
    refine RunsE.no (by rw [h4]; rfl) ?_
    simp only [h4, ne_eq, not_true, if_false] at hopen
    repeat (first | refine .seq ?_ | refine .skip ?_ | refine .block ?_ | refine .inBlock ?_ | refine .yes rfl ?_ | refine .no rfl ?_ | refine .exit rfl ?_)
    refine RunsE.region ?_
    refine OpsE.ev (Ev.move rfl) rfl ?_
    refine OpsE.ev (Ev.assign rfl) rfl ?_
    refine OpsE.ev (Ev.assign rfl) rfl ?_
    refine OpsE.nil ?_
    repeat (first | refine .seq ?_ | refine .skip ?_ | refine .block ?_ | refine .inBlock ?_ | refine .yes rfl ?_ | refine .no rfl ?_ | refine .exit rfl ?_)
    exact RunsE.ret2 Tryz.func11 rfl rfl rfl (.inr ⟨l, s, m, o, hopen, rfl, ho, hfin (hdr H)⟩)
  · repeat refine RunsE.seq ?_
    refine RunsE.yes (congrArg (fun b => some (Value.bool b)) (decide_eq_true h4)) ?_
    simp only [ne_eq, h4, not_false_eq_true, if_true] at hopen
    repeat (first | refine .seq ?_ | refine .skip ?_ | refine .block ?_ | refine .inBlock ?_ | refine .yes rfl ?_ | refine .no rfl ?_ | refine .exit rfl ?_)
    refine RunsE.region ?_
    refine OpsE.ev (Ev.makeInterface (d := (.int .i64)) rfl (by kernel_rfl) rfl) rfl ?_
    refine OpsE.ev (Ev.assign rfl) rfl ?_
    refine OpsE.ev (Ev.assign rfl) rfl ?_
    refine OpsE.nil ?_
    repeat (first | refine .seq ?_ | refine .skip ?_ | refine .block ?_ | refine .inBlock ?_ | refine .yes rfl ?_ | refine .no rfl ?_ | refine .exit rfl ?_)
    exact RunsE.ret2 Tryz.func11 rfl rfl rfl (.inl ⟨hopen, rfl, hfin0 (hdr H)⟩)

end Go.Proofs.YtflfaiakenahlaaGreatDoor
end

section
/-
  The document's shelf, walked: Find, with, without, used.
-/
namespace Go.Proofs.YtflfaiakenahlaaGreatDoor.V

theorem RdS.elS {α : Type} {g : α → List Value} {sz : Nat} {G : List (Nat × Obj)} {a : Option Addr} {n' c i : Nat} {xs : List α} {x : α} (h : RdS G sz (.slice a n' c) xs.length (xs.flatMap g)) (hg : ∀ x, (g x).length = sz) (hi : xs[i]? = some x) :
    ∃ b off, a = some ⟨b, off, none⟩ ∧ ∀ (j : Nat) v, (g x)[j]? = some v → Rd G ⟨b, off + i * sz + j, none⟩ v := by
  have hlt : i < xs.length := by
    rcases Nat.lt_or_ge i xs.length with h | h
    · exact h
    · rw [List.getElem?_eq_none h] at hi; cases hi
  obtain ⟨b, off, e, hr⟩ := h.at (by omega)
  refine ⟨b, off, e, fun j v hj => ?_⟩
  have hjl : j < sz := by
    rw [← hg x]
    rcases Nat.lt_or_ge j (g x).length with h | h
    · exact h
    · rw [List.getElem?_eq_none h] at hj; cases hj
  rw [Nat.add_assoc]
  exact hr _ v (by rw [flatMap_get hg xs i j x hi hjl]; exact hj)

abbrev gL (y : Lf) : List Value := [sV y.key, sV y.val, .int .i64 (y.place : Int)]
theorem gL_len (y : Lf) : (gL y).length = 3 := rfl
theorem gL_one : ∀ y : Lf, ∀ v ∈ gL y, v.oneCell' = true := by
  intro y v hv
  simp only [gL, List.mem_cons, List.not_mem_nil, or_false] at hv
  rcases hv with rfl | rfl | rfl <;> rfl
theorem gC_one : ∀ y : Ch, ∀ v ∈ gC y, v.oneCell' = true := by
  intro y v hv
  simp only [gC, List.mem_cons, List.not_mem_nil, or_false] at hv
  rcases hv with rfl | rfl | rfl <;> rfl

/-- Leaves that lie somewhere. -/
abbrev LsAt (X : List (Nat × Obj)) (v : Value) (l : List Lf) : Prop := RdS X 3 v l.length (l.flatMap gL)

def findI (l : List Lf) (k : List UInt8) : Nat := l.findIdx fun y => decide (y.key = k)

theorem findI_le (l : List Lf) (k : List UInt8) : findI l k ≤ l.length := List.findIdx_le_length

theorem findI_no {l : List Lf} {k : List UInt8} {i : Nat} {y : Lf} (hi : l[i]? = some y) (h : i ≤ findI l k) (hk : y.key = k) : findI l k = i := by
  rcases Nat.lt_or_ge i (findI l k) with h1 | h1
  · have := List.not_of_lt_findIdx h1
    have h2 : i < l.length := Nat.lt_of_lt_of_le h1 (findI_le l k)
    rw [List.getElem?_eq_getElem h2] at hi
    cases hi
    simp [hk] at this
  · omega

theorem findI_step {l : List Lf} {k : List UInt8} {i : Nat} {y : Lf} (hi : l[i]? = some y) (h : i ≤ findI l k) (hk : y.key ≠ k) : i + 1 ≤ findI l k := by
  rcases Nat.lt_or_ge i (findI l k) with h1 | h1
  · exact h1
  · have h2 : i < l.length := by
      rcases Nat.lt_or_ge i l.length with h | h
      · exact h
      · rw [List.getElem?_eq_none h] at hi; cases hi
    have h3 : findI l k = i := by omega
    have h4 : findI l k < l.length := by omega
    have h5 := List.findIdx_getElem (w := h4)
    rw [List.getElem?_eq_getElem h2] at hi
    cases hi
    unfold findI at h3
    simp only [h3] at h5
    simp at h5
    exact absurd h5 hk

/-- The index, as the document tells it. -/
def findZ (l : List Lf) (k : List UInt8) : Int := if findI l k < l.length then (findI l k : Int) else -1

theorem find_isSome (l : List Lf) (k : List UInt8) : (findL l k).isSome = decide (findI l k < l.length) := by
  unfold findL findI
  rw [Bool.eq_iff_iff, List.find?_isSome, decide_eq_true_iff, List.findIdx_lt_length]

theorem find_at {l : List Lf} {k : List UInt8} : findL l k = l[findI l k]? := by
  unfold findL findI
  rw [List.find?_eq_getElem?_findIdx]

theorem takeWhile_next {α : Type} {p : α → Bool} : ∀ {l : List α} {i : Nat} {y : α}, i ≤ (l.takeWhile p).length → l[i]? = some y → (p y = true → i + 1 ≤ (l.takeWhile p).length) ∧ (p y = false → (l.takeWhile p).length = i)
  | [], i, y, _, h => by simp at h
  | a :: r, i, y, hi, h => by
    cases hp : p a with
    | false =>
      rw [List.takeWhile_cons, hp] at hi ⊢
      simp only [Bool.false_eq_true, if_false, List.length_nil, Nat.le_zero] at hi ⊢
      subst hi
      simp only [List.getElem?_cons_zero, Option.some.injEq] at h
      subst h
      exact ⟨fun h => (by rw [hp] at h; cases h), fun _ => rfl⟩
    | true =>
      rw [List.takeWhile_cons, hp] at hi ⊢
      simp only [if_true, List.length_cons] at hi ⊢
      cases i with
      | zero =>
        simp only [List.getElem?_cons_zero, Option.some.injEq] at h
        subst h
        exact ⟨fun _ => by omega, fun h => by rw [hp] at h; cases h⟩
      | succ i =>
        simp only [List.getElem?_cons_succ] at h
        have := takeWhile_next (p := p) (l := r) (by omega) h
        exact ⟨fun h => by have := this.1 h; omega, fun h => by have := this.2 h; omega⟩

theorem take_tw {α : Type} {p : α → Bool} (l : List α) : l.take (l.takeWhile p).length = l.takeWhile p ∧ l.drop (l.takeWhile p).length = l.dropWhile p := by
  have h := List.takeWhile_append_dropWhile (p := p) (l := l)
  constructor
  · have h2 : l.take (l.takeWhile p).length = (l.takeWhile p ++ l.dropWhile p).take (l.takeWhile p).length := by rw [h]
    rw [h2, List.take_left]
  · have h2 : l.drop (l.takeWhile p).length = (l.takeWhile p ++ l.dropWhile p).drop (l.takeWhile p).length := by rw [h]
    rw [h2, List.drop_left]

end Go.Proofs.YtflfaiakenahlaaGreatDoor.V
namespace Go.Proofs.YtflfaiakenahlaaGreatDoor
open Go.Proofs.YtflfaiakenahlaaGreatDoor.V

theorem find_spec [Strm] (l : List Lf) (k : List UInt8) (v : Value) (hl : l.length ≤ 1000000) (w : World) (X : List (Nat × Obj)) (hv : LsAt X v l) (H : SL w X) :
    Does Tryz.prog 45 #[v, sV k] w fun r w' => r = .int .i64 (findZ l k) ∧ SL w' X := by
  obtain ⟨av, cv, rfl, hcv⟩ := hv.len
  refine Does.intro (args := [_, _]) (e := [(0, _), (1, _)]) Tryz.func45 rfl Tryz.ntmps45 rfl rfl ?_
  repeat (first | refine .seq ?_ | refine .skip ?_ | refine .block ?_ | refine .inBlock ?_ | refine .yes rfl ?_ | refine .no rfl ?_ | refine .exit rfl ?_)
  repeat (first | refine .seq ?_ | refine .skip ?_ | refine .block ?_ | refine .inBlock ?_ | refine .yes rfl ?_ | refine .no rfl ?_ | refine .exit rfl ?_)
  refine RunsE.region ?_
  refine OpsE.ev (Ev.assign rfl) rfl ?_
  refine OpsE.nil ?_
  repeat (first | refine .seq ?_ | refine .skip ?_ | refine .block ?_ | refine .inBlock ?_ | refine .yes rfl ?_ | refine .no rfl ?_ | refine .exit rfl ?_)
  refine RunsE.region ?_
  refine OpsE.ev (Ev.assign rfl) rfl ?_
  refine OpsE.nil ?_
  repeat refine RunsE.seq ?_
  refine RunsE.join (fun _ : Unit => [])
    (fun _ w => findI l k = l.length ∧ SL w X) (fun next => ?_) ?_
  · refine RunsE.block ?_
    refine RunsE.loop (fun i : Nat => [(0, .slice av l.length cv), (1, sV k), (5, .int .i64 (i : Int))])
      (fun i w => i ≤ findI l k ∧ SL w X) (fun i => l.length - i) 0 ⟨rfl, rfl, rfl, trivial⟩ ⟨by omega, H⟩ ?_
    clear H
    rintro i w ⟨hi, H⟩ nextL
    have hle := findI_le l k
    by_cases h1 : i = l.length
    ·
      repeat (first | refine .seq ?_ | refine .skip ?_ | refine .block ?_ | refine .inBlock ?_ | refine .yes rfl ?_ | refine .no rfl ?_ | refine .exit rfl ?_)
      refine RunsE.region ?_
      refine OpsE.ev (Ev.move rfl) rfl ?_
      refine OpsE.ev (Ev.move rfl) rfl ?_
      refine OpsE.ev (Ev.lenSl (d := 64) rfl rfl (by kernel_rfl)) rfl ?_
      refine OpsE.ev (Ev.lss (r := false) rfl rfl (decide_eq_false (by omega))) rfl ?_
      refine OpsE.nil ?_
      repeat refine RunsE.seq ?_
      refine RunsE.no rfl ?_
      refine RunsE.exit rfl ?_
      exact next () _ _ ⟨by omega, H⟩ trivial
    · clear next
      have hil : i < l.length := by omega
      obtain ⟨y, hy⟩ : ∃ y, l[i]? = some y := ⟨l[i], List.getElem?_eq_getElem hil⟩
      obtain ⟨bl, ol, rfl, hat⟩ := hv.elS gL_len hy
      repeat (first | refine .seq ?_ | refine .skip ?_ | refine .block ?_ | refine .inBlock ?_ | refine .yes rfl ?_ | refine .no rfl ?_ | refine .exit rfl ?_)
      refine RunsE.region ?_
      refine OpsE.ev (Ev.move rfl) rfl ?_
      refine OpsE.ev (Ev.move rfl) rfl ?_
      refine OpsE.ev (Ev.lenSl (d := 64) rfl rfl (by kernel_rfl)) rfl ?_
      refine OpsE.ev (Ev.lss (r := true) rfl rfl (decide_eq_true (by omega))) rfl ?_
      refine OpsE.nil ?_
      repeat (first | refine .seq ?_ | refine .skip ?_ | refine .block ?_ | refine .inBlock ?_ | refine .yes rfl ?_ | refine .no rfl ?_ | refine .exit rfl ?_)
      repeat (first | refine .seq ?_ | refine .skip ?_ | refine .block ?_ | refine .inBlock ?_ | refine .yes rfl ?_ | refine .no rfl ?_ | refine .exit rfl ?_)
      refine RunsE.region ?_
      refine OpsE.ev (Ev.move rfl) rfl ?_
      refine OpsE.ev (Ev.move rfl) rfl ?_
      refine OpsE.ev (Ev.iaSl (n := 64) (sz := 3) (m := i) (o := ol + i * 3) rfl rfl rfl (by kernel_rfl) hil) rfl ?_
      refine OpsE.ev (Ev.fieldAddr (o := 0) (o' := ol + i * 3 + 0) rfl (by kernel_rfl) (by omega)) rfl ?_
      refine OpsE.ev (Ev.load H rfl (by kernel_rfl) (hat 0 _ rfl)) rfl ?_
      refine OpsE.ev (Ev.move rfl) rfl ?_
      refine OpsE.ev (Ev.strEqR (r := decide (y.key = k)) rfl rfl rfl) rfl ?_
      refine OpsE.nil ?_
      by_cases h2 : y.key = k
      · repeat refine RunsE.seq ?_
        refine RunsE.yes (by rw [decide_eq_true h2]; rfl) ?_
        repeat (first | refine .seq ?_ | refine .skip ?_ | refine .block ?_ | refine .inBlock ?_ | refine .yes rfl ?_ | refine .no rfl ?_ | refine .exit rfl ?_)
        refine RunsE.region ?_
        refine OpsE.ev (Ev.move rfl) rfl ?_
        refine OpsE.ev (Ev.assign rfl) rfl ?_
        refine OpsE.nil ?_
        repeat (first | refine .seq ?_ | refine .skip ?_ | refine .block ?_ | refine .inBlock ?_ | refine .yes rfl ?_ | refine .no rfl ?_ | refine .exit rfl ?_)
        have h3 := findI_no hy hi h2
        exact RunsE.ret1 Tryz.func45 rfl rfl ⟨by rw [findZ, h3, if_pos hil], H⟩
      · repeat refine RunsE.seq ?_
        refine RunsE.no (by rw [decide_eq_false h2]; rfl) ?_
        refine RunsE.skip ?_
        refine RunsE.inBlock ?_
        repeat (first | refine .seq ?_ | refine .skip ?_ | refine .block ?_ | refine .inBlock ?_ | refine .yes rfl ?_ | refine .no rfl ?_ | refine .exit rfl ?_)
        refine RunsE.region ?_
        refine OpsE.ev (Ev.move rfl) rfl ?_
        refine OpsE.ev (Ev.add rfl rfl) rfl ?_
        refine OpsE.ev (Ev.assign rfl) rfl ?_
        refine OpsE.nil ?_
        exact nextL (i + 1) _ _ (by omega) ⟨findI_step hy hi h2, H⟩ ⟨rfl, rfl, rfl, trivial⟩
  clear H
  rintro _ w ⟨h, H⟩
  repeat (first | refine .seq ?_ | refine .skip ?_ | refine .block ?_ | refine .inBlock ?_ | refine .yes rfl ?_ | refine .no rfl ?_ | refine .exit rfl ?_)
  refine RunsE.region ?_
  refine OpsE.ev (Ev.assign rfl) rfl ?_
  refine OpsE.nil ?_
  repeat (first | refine .seq ?_ | refine .skip ?_ | refine .block ?_ | refine .inBlock ?_ | refine .yes rfl ?_ | refine .no rfl ?_ | refine .exit rfl ?_)
  exact RunsE.ret1 Tryz.func45 rfl rfl ⟨by rw [findZ, h, if_neg (by omega)], H⟩

theorem used_spec [Strm] (l : List Lf) (p : Nat) (v : Value) (hl : l.length ≤ 1000000) (w : World) (X : List (Nat × Obj)) (hv : LsAt X v l) (H : SL w X) :
    Does Tryz.prog 58 #[v, .int .i64 (p : Int)] w fun r w' => r = .bool (l.any fun y => decide (y.place = p)) ∧ SL w' X := by
  obtain ⟨av, cv, rfl, hcv⟩ := hv.len
  refine Does.intro (args := [_, _]) (e := [(0, _), (1, _)]) Tryz.func58 rfl Tryz.ntmps58 rfl rfl ?_
  repeat (first | refine .seq ?_ | refine .skip ?_ | refine .block ?_ | refine .inBlock ?_ | refine .yes rfl ?_ | refine .no rfl ?_ | refine .exit rfl ?_)
  repeat (first | refine .seq ?_ | refine .skip ?_ | refine .block ?_ | refine .inBlock ?_ | refine .yes rfl ?_ | refine .no rfl ?_ | refine .exit rfl ?_)
  refine RunsE.region ?_
  refine OpsE.ev (Ev.assign rfl) rfl ?_
  refine OpsE.nil ?_
  repeat (first | refine .seq ?_ | refine .skip ?_ | refine .block ?_ | refine .inBlock ?_ | refine .yes rfl ?_ | refine .no rfl ?_ | refine .exit rfl ?_)
  refine RunsE.region ?_
  refine OpsE.ev (Ev.assign rfl) rfl ?_
  refine OpsE.nil ?_
  repeat refine RunsE.seq ?_
  refine RunsE.join (fun _ : Unit => [])
    (fun _ w => (∀ y ∈ l, y.place ≠ p) ∧ SL w X) (fun next => ?_) ?_
  · refine RunsE.block ?_
    refine RunsE.loop (fun i : Nat => [(0, .slice av l.length cv), (1, .int .i64 (p : Int)), (5, .int .i64 (i : Int))])
      (fun i w => (i ≤ l.length ∧ ∀ y ∈ l.take i, y.place ≠ p) ∧ SL w X) (fun i => l.length - i) 0 ⟨rfl, rfl, rfl, trivial⟩ ⟨⟨by omega, by simp⟩, H⟩ ?_
    clear H
    rintro i w ⟨⟨hi, hno⟩, H⟩ nextL
    by_cases h1 : i = l.length
    ·
      repeat (first | refine .seq ?_ | refine .skip ?_ | refine .block ?_ | refine .inBlock ?_ | refine .yes rfl ?_ | refine .no rfl ?_ | refine .exit rfl ?_)
      refine RunsE.region ?_
      refine OpsE.ev (Ev.move rfl) rfl ?_
      refine OpsE.ev (Ev.move rfl) rfl ?_
      refine OpsE.ev (Ev.lenSl (d := 64) rfl rfl (by kernel_rfl)) rfl ?_
      refine OpsE.ev (Ev.lss (r := false) rfl rfl (decide_eq_false (by omega))) rfl ?_
      refine OpsE.nil ?_
      repeat refine RunsE.seq ?_
      refine RunsE.no rfl ?_
      refine RunsE.exit rfl ?_
      rw [h1, List.take_length] at hno
      exact next () _ _ ⟨hno, H⟩ trivial
    · clear next
      have hil : i < l.length := by omega
      obtain ⟨y, hy⟩ : ∃ y, l[i]? = some y := ⟨l[i], List.getElem?_eq_getElem hil⟩
      have hyl : y ∈ l := List.mem_of_getElem? hy
      obtain ⟨bl, ol, rfl, hat⟩ := hv.elS gL_len hy
      repeat (first | refine .seq ?_ | refine .skip ?_ | refine .block ?_ | refine .inBlock ?_ | refine .yes rfl ?_ | refine .no rfl ?_ | refine .exit rfl ?_)
      refine RunsE.region ?_
      refine OpsE.ev (Ev.move rfl) rfl ?_
      refine OpsE.ev (Ev.move rfl) rfl ?_
      refine OpsE.ev (Ev.lenSl (d := 64) rfl rfl (by kernel_rfl)) rfl ?_
      refine OpsE.ev (Ev.lss (r := true) rfl rfl (decide_eq_true (by omega))) rfl ?_
      refine OpsE.nil ?_
      repeat (first | refine .seq ?_ | refine .skip ?_ | refine .block ?_ | refine .inBlock ?_ | refine .yes rfl ?_ | refine .no rfl ?_ | refine .exit rfl ?_)
      repeat (first | refine .seq ?_ | refine .skip ?_ | refine .block ?_ | refine .inBlock ?_ | refine .yes rfl ?_ | refine .no rfl ?_ | refine .exit rfl ?_)
      refine RunsE.region ?_
      refine OpsE.ev (Ev.move rfl) rfl ?_
      refine OpsE.ev (Ev.move rfl) rfl ?_
      refine OpsE.ev (Ev.iaSl (n := 64) (sz := 3) (m := i) (o := ol + i * 3) rfl rfl rfl (by kernel_rfl) hil) rfl ?_
      refine OpsE.ev (Ev.fieldAddr (o := 2) (o' := ol + i * 3 + 2) rfl (by kernel_rfl) (by omega)) rfl ?_
      refine OpsE.ev (Ev.load H rfl (by kernel_rfl) (hat 2 _ rfl)) rfl ?_
      refine OpsE.ev (Ev.move rfl) rfl ?_
      refine OpsE.ev (Ev.eql (r := decide (y.place = p)) rfl rfl (by rw [Bool.eq_iff_iff, beq_iff_eq, decide_eq_true_iff]; omega)) rfl ?_
      refine OpsE.nil ?_
      by_cases h2 : y.place = p
      · repeat refine RunsE.seq ?_
        refine RunsE.yes (by rw [decide_eq_true h2]; rfl) ?_
        repeat (first | refine .seq ?_ | refine .skip ?_ | refine .block ?_ | refine .inBlock ?_ | refine .yes rfl ?_ | refine .no rfl ?_ | refine .exit rfl ?_)
        refine RunsE.region ?_
        refine OpsE.ev (Ev.assign rfl) rfl ?_
        refine OpsE.nil ?_
        repeat (first | refine .seq ?_ | refine .skip ?_ | refine .block ?_ | refine .inBlock ?_ | refine .yes rfl ?_ | refine .no rfl ?_ | refine .exit rfl ?_)
        exact RunsE.ret1 Tryz.func58 rfl rfl ⟨by rw [show (l.any fun y => decide (y.place = p)) = true from List.any_eq_true.2 ⟨y, hyl, decide_eq_true h2⟩], H⟩
      · repeat refine RunsE.seq ?_
        refine RunsE.no (by rw [decide_eq_false h2]; rfl) ?_
        refine RunsE.skip ?_
        refine RunsE.inBlock ?_
        repeat (first | refine .seq ?_ | refine .skip ?_ | refine .block ?_ | refine .inBlock ?_ | refine .yes rfl ?_ | refine .no rfl ?_ | refine .exit rfl ?_)
        refine RunsE.region ?_
        refine OpsE.ev (Ev.move rfl) rfl ?_
        refine OpsE.ev (Ev.add rfl rfl) rfl ?_
        refine OpsE.ev (Ev.assign rfl) rfl ?_
        refine OpsE.nil ?_
        refine nextL (i + 1) _ _ (by omega) ⟨⟨by omega, fun z hz => ?_⟩, H⟩ ⟨rfl, rfl, rfl, trivial⟩
        rw [List.take_add_one, hy] at hz
        rcases List.mem_append.1 hz with hz | hz
        · exact hno z hz
        · simp at hz; subst hz; exact h2
  clear H
  rintro _ w ⟨h, H⟩
  repeat (first | refine .seq ?_ | refine .skip ?_ | refine .block ?_ | refine .inBlock ?_ | refine .yes rfl ?_ | refine .no rfl ?_ | refine .exit rfl ?_)
  refine RunsE.region ?_
  refine OpsE.ev (Ev.assign rfl) rfl ?_
  refine OpsE.nil ?_
  repeat (first | refine .seq ?_ | refine .skip ?_ | refine .block ?_ | refine .inBlock ?_ | refine .yes rfl ?_ | refine .no rfl ?_ | refine .exit rfl ?_)
  exact RunsE.ret1 Tryz.func58 rfl rfl ⟨by rw [show (l.any fun y => decide (y.place = p)) = false from List.any_eq_false.2 fun y hy => by simp [h y hy]], H⟩

theorem without_spec [Strm] (l : List Lf) (k : List UInt8) (v : Value) (hl : l.length ≤ 100000) (w : World) (X : List (Nat × Obj)) (hv : LsAt X v l) (H : SL w X) :
    Does Tryz.prog 57 #[v, sV k] w fun r w' => ∃ B, Slc gL 3 64 r (delL l k) B ∧ SL w' (B ++ X) := by
  obtain ⟨av, cv, rfl, hcv⟩ := hv.len
  refine Does.intro (args := [_, _]) (e := [(0, _), (1, _)]) Tryz.func57 rfl Tryz.ntmps57 rfl rfl ?_
  repeat (first | refine .seq ?_ | refine .skip ?_ | refine .block ?_ | refine .inBlock ?_ | refine .yes rfl ?_ | refine .no rfl ?_ | refine .exit rfl ?_)
  repeat (first | refine .seq ?_ | refine .skip ?_ | refine .block ?_ | refine .inBlock ?_ | refine .yes rfl ?_ | refine .no rfl ?_ | refine .exit rfl ?_)
  refine RunsE.region ?_
  refine OpsE.ev (Ev.assign rfl) rfl ?_
  refine OpsE.nil ?_
  repeat (first | refine .seq ?_ | refine .skip ?_ | refine .block ?_ | refine .inBlock ?_ | refine .yes rfl ?_ | refine .no rfl ?_ | refine .exit rfl ?_)
  refine RunsE.region ?_
  refine OpsE.ev (Ev.assign rfl) rfl ?_
  refine OpsE.nil ?_
  repeat (first | refine .seq ?_ | refine .skip ?_ | refine .block ?_ | refine .inBlock ?_ | refine .yes rfl ?_ | refine .no rfl ?_ | refine .exit rfl ?_)
  refine RunsE.region ?_
  refine OpsE.ev (Ev.assign rfl) rfl ?_
  refine OpsE.nil ?_
  repeat refine RunsE.seq ?_
  refine RunsE.join (fun v : Value => [(5, v)])
    (fun v w => ∃ B, Slc gL 3 64 v (delL l k) B ∧ SL w (B ++ X)) (fun next => ?_) ?_
  · refine RunsE.block ?_
    refine RunsE.loop (fun s : Nat × Value => [(0, .slice av l.length cv), (1, sV k), (5, s.2), (6, .int .i64 (s.1 : Int))])
      (fun s w => s.1 ≤ l.length ∧ ∃ B, Slc gL 3 64 s.2 (delL (l.take s.1) k) B ∧ SL w (B ++ X)) (fun s => l.length - s.1) (0, .slice none 0 0) ⟨rfl, rfl, rfl, rfl, trivial⟩ ⟨by omega, [], .nil, H⟩ ?_
    clear H
    rintro ⟨i, v⟩ w ⟨hi, B, hs, H⟩ nextL
    simp only at hi hs
    by_cases h1 : i = l.length
    ·
      repeat (first | refine .seq ?_ | refine .skip ?_ | refine .block ?_ | refine .inBlock ?_ | refine .yes rfl ?_ | refine .no rfl ?_ | refine .exit rfl ?_)
      refine RunsE.region ?_
      refine OpsE.ev (Ev.move rfl) rfl ?_
      refine OpsE.ev (Ev.move rfl) rfl ?_
      refine OpsE.ev (Ev.lenSl (d := 64) rfl rfl (by kernel_rfl)) rfl ?_
      refine OpsE.ev (Ev.lss (r := false) rfl rfl (decide_eq_false (by simp only; omega))) rfl ?_
      refine OpsE.nil ?_
      repeat refine RunsE.seq ?_
      refine RunsE.no rfl ?_
      refine RunsE.exit rfl ?_
      rw [h1, List.take_length] at hs
      exact next _ _ _ ⟨B, hs, H⟩ ⟨rfl, trivial⟩
    · clear next
      have hil : i < l.length := by omega
      obtain ⟨y, hy⟩ : ∃ y, l[i]? = some y := ⟨l[i], List.getElem?_eq_getElem hil⟩
      obtain ⟨bl, ol, rfl, hat⟩ := hv.elS gL_len hy
      have ht : l.take (i + 1) = l.take i ++ [y] := by rw [List.take_add_one, hy]; rfl
      have hbl : (delL (l.take i) k).length ≤ l.length := Nat.le_trans (List.length_filter_le _ _) (by rw [List.length_take]; omega)
      repeat (first | refine .seq ?_ | refine .skip ?_ | refine .block ?_ | refine .inBlock ?_ | refine .yes rfl ?_ | refine .no rfl ?_ | refine .exit rfl ?_)
      refine RunsE.region ?_
      refine OpsE.ev (Ev.move rfl) rfl ?_
      refine OpsE.ev (Ev.move rfl) rfl ?_
      refine OpsE.ev (Ev.lenSl (d := 64) rfl rfl (by kernel_rfl)) rfl ?_
      refine OpsE.ev (Ev.lss (r := true) rfl rfl (decide_eq_true (by simp only; omega))) rfl ?_
      refine OpsE.nil ?_
      repeat (first | refine .seq ?_ | refine .skip ?_ | refine .block ?_ | refine .inBlock ?_ | refine .yes rfl ?_ | refine .no rfl ?_ | refine .exit rfl ?_)
      by_cases h2 : y.key = k
      ·
        repeat (first | refine .seq ?_ | refine .skip ?_ | refine .block ?_ | refine .inBlock ?_ | refine .yes rfl ?_ | refine .no rfl ?_ | refine .exit rfl ?_)
        refine RunsE.region ?_
        refine OpsE.ev (Ev.move rfl) rfl ?_
        refine OpsE.ev (Ev.move rfl) rfl ?_
        refine OpsE.ev (Ev.iaSl (n := 64) (sz := 3) (m := i) (o := ol + i * 3) rfl rfl rfl (by kernel_rfl) hil) rfl ?_
        refine OpsE.ev (Ev.fieldAddr (o := 0) (o' := ol + i * 3 + 0) rfl (by kernel_rfl) (by omega)) rfl ?_
        refine OpsE.ev (Ev.load H rfl (by kernel_rfl) (hat 0 _ rfl).right) rfl ?_
        refine OpsE.ev (Ev.move rfl) rfl ?_
        refine OpsE.ev (Ev.strNeR (r := false) rfl rfl (decide_eq_false (by simpa using h2))) rfl ?_
        refine OpsE.nil ?_
        repeat refine RunsE.seq ?_
        refine RunsE.no rfl ?_
        refine RunsE.skip ?_
        refine RunsE.inBlock ?_
        repeat (first | refine .seq ?_ | refine .skip ?_ | refine .block ?_ | refine .inBlock ?_ | refine .yes rfl ?_ | refine .no rfl ?_ | refine .exit rfl ?_)
        refine RunsE.region ?_
        refine OpsE.ev (Ev.move rfl) rfl ?_
        refine OpsE.ev (Ev.add rfl rfl) rfl ?_
        refine OpsE.ev (Ev.assign rfl) rfl ?_
        refine OpsE.nil ?_
        refine nextL (i + 1, v) _ _ (by simp only; omega) ⟨by simp only; omega, B, ?_, H⟩ ⟨rfl, rfl, rfl, rfl, trivial⟩
        have e1 : delL (l.take (i + 1)) k = delL (l.take i) k := by
          rw [ht, delL, List.filter_append]
          simp [delL, h2]
        simp only [e1]
        exact hs
      ·
        repeat (first | refine .seq ?_ | refine .skip ?_ | refine .block ?_ | refine .inBlock ?_ | refine .yes rfl ?_ | refine .no rfl ?_ | refine .exit rfl ?_)
        refine RunsE.region ?_
        refine OpsE.ev (Ev.move rfl) rfl ?_
        refine OpsE.ev (Ev.move rfl) rfl ?_
        refine OpsE.ev (Ev.iaSl (n := 64) (sz := 3) (m := i) (o := ol + i * 3) rfl rfl rfl (by kernel_rfl) hil) rfl ?_
        refine OpsE.ev (Ev.fieldAddr (o := 0) (o' := ol + i * 3 + 0) rfl (by kernel_rfl) (by omega)) rfl ?_
        refine OpsE.ev (Ev.load H rfl (by kernel_rfl) (hat 0 _ rfl).right) rfl ?_
        refine OpsE.ev (Ev.move rfl) rfl ?_
        refine OpsE.ev (Ev.strNeR (r := true) rfl rfl (decide_eq_true h2)) rfl ?_
        refine OpsE.nil ?_
        repeat refine RunsE.seq ?_
        refine RunsE.yes rfl ?_
        repeat (first | refine .seq ?_ | refine .skip ?_ | refine .block ?_ | refine .inBlock ?_ | refine .yes rfl ?_ | refine .no rfl ?_ | refine .exit rfl ?_)
        refine RunsE.region ?_
        refine OpsE.ev (Ev.move rfl) rfl ?_
        refine OpsE.ev (Ev.move rfl) rfl ?_
        refine OpsE.ev (Ev.move rfl) rfl ?_
        refine OpsE.ev (Ev.iaSl (n := 64) (sz := 3) (m := i) (o := ol + i * 3) rfl rfl rfl (by kernel_rfl) hil) rfl ?_
        refine OpsE.ev (Ev.loadAgg (vs := gL y) H rfl (by kernel_rfl) (fun j v hj => by rw [add_none]; exact (hat j v hj).right)) rfl ?_
        refine OpsE.ex (Ex.buildSlP (len := 1) (sz := 3) (T := 64) (zv := .agg #[.string .empty, .string .empty, .int .i64 0]) (cs := gL y) H rfl (by kernel_rfl) (by kernel_rfl) rfl (by decide) (by decide)) rfl ?_; (try clear H); rintro _ w ⟨b25, rfl, H⟩
        refine OpsE.ex (Ex.append (T := 64) (g := gL) (sz := 3) (by_ := 40) (zv := .agg #[.string .empty, .string .empty, .int .i64 0]) (xs := delL (l.take i) k) (ys := [y]) H.drop rfl rfl hs (Src.row0 H m0 rfl) gL_len gL_one (by kernel_rfl) (by kernel_rfl) (by kernel_rfl) (by kernel_rfl) rfl (by simp only [List.length_singleton]; omega) (by simp only [List.length_singleton]; omega)) rfl ?_; (try clear H); rintro v' w ⟨B, hs, H⟩
        refine OpsE.ev (Ev.assign rfl) rfl ?_
        refine OpsE.nil ?_
        refine RunsE.inBlock ?_
        repeat (first | refine .seq ?_ | refine .skip ?_ | refine .block ?_ | refine .inBlock ?_ | refine .yes rfl ?_ | refine .no rfl ?_ | refine .exit rfl ?_)
        refine RunsE.region ?_
        refine OpsE.ev (Ev.move rfl) rfl ?_
        refine OpsE.ev (Ev.add rfl rfl) rfl ?_
        refine OpsE.ev (Ev.assign rfl) rfl ?_
        refine OpsE.nil ?_
        refine nextL (i + 1, v') _ _ (by simp only; omega) ⟨by simp only; omega, B, ?_, H⟩ ⟨rfl, rfl, rfl, rfl, trivial⟩
        have e1 : delL (l.take (i + 1)) k = delL (l.take i) k ++ [y] := by
          rw [ht, delL, List.filter_append]
          simp [delL, h2]
        simp only [e1]
        exact hs
  clear H
  rintro v w ⟨B, hs, H⟩
  repeat (first | refine .seq ?_ | refine .skip ?_ | refine .block ?_ | refine .inBlock ?_ | refine .yes rfl ?_ | refine .no rfl ?_ | refine .exit rfl ?_)
  refine RunsE.region ?_
  refine OpsE.ev (Ev.move rfl) rfl ?_
  refine OpsE.ev (Ev.assign rfl) rfl ?_
  refine OpsE.nil ?_
  repeat (first | refine .seq ?_ | refine .skip ?_ | refine .block ?_ | refine .inBlock ?_ | refine .yes rfl ?_ | refine .no rfl ?_ | refine .exit rfl ?_)
  exact RunsE.ret1 Tryz.func57 rfl rfl ⟨B, hs, H⟩

end Go.Proofs.YtflfaiakenahlaaGreatDoor
end
