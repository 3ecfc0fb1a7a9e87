/-
  The proof's parts, in one file: ShX, ShEff, ShY, KN, TEnc, KY, TopW.
-/
import Derived.Test.YtdppnaahdilkcaaGreatDoorM9
import Derived.Test.YtdppnaahdilkcaaGreatDoorM8
import Derived.Test.YtdppnaahdilkcaaGreatDoorM3
import Derived.Test.YtdppnaahdilkcaaGreatDoorM4
import Derived.Test.YtdppnaahdilkcaaGreatDoorM7
import Derived.Test.YtdppnaahdilkcaaGreatDoorM2

section
/-
  The shelf, walked: Open.
-/
namespace Go.Proofs.YtdppnaahdilkcaaGreatDoor.V

theorem lastW_sz {Q : List (Nat × List UInt8)} {p : Nat} (h : ∀ q ∈ Q, q.2.length ≤ 4096) : ∀ k b, k ≤ Q.length → lastW Q p k = some b → b.length ≤ 4096
  | 0, _, _, hb => by cases hb
  | k + 1, b, hk, hb => by
    unfold lastW at hb
    split at hb
    · cases hb
      exact h _ (getD_mem (by omega))
    · exact lastW_sz h k b (by omega) hb

theorem page_sz {s : St} (h : s.Ok) (p : Nat) : (s.page p).length ≤ 4096 := by
  unfold St.page
  cases hl : lastW s.Q p s.Q.length with
  | some b => exact lastW_sz h.qsz _ b (Nat.le_refl _) hl
  | none =>
    simp only [Option.getD_none]
    by_cases hp : p < s.P.length
    · exact h.psz _ (getD_mem hp)
    · rw [List.getD_eq_getElem?_getD, List.getElem?_eq_none (by omega)]
      simp

end Go.Proofs.YtdppnaahdilkcaaGreatDoor.V
namespace Go.Proofs.YtdppnaahdilkcaaGreatDoor
open Go.Proofs.YtdppnaahdilkcaaGreatDoor.V

theorem HoldS.ok {b : Nat} {s : St} {A : List (Nat × Obj)} (h : HoldS b s A) : s.Ok := by
  cases h with
  | mk rb pv qv ql Bq D hp hq hQ ok => exact ok

theorem may_spec [Strm] (fr count : Int) (b1 : -9223372036854775808 ≤ fr) (b2 : fr ≤ 9223372036854775807) (st : St) (p : Nat) (A : List (Nat × Obj)) (w : World) (F : List (Nat × Obj)) (hA : HoldS p st A) (H : SL w (A ++ F)) :
    Does Tryz.prog 251 #[.agg #[.int .i64 fr, .int .i64 count], .pointer (some ⟨p, 0, none⟩)] w fun r w' => r = .bool (decide (0 ≤ fr ∧ 2 ≤ count ∧ count ≤ 1024 ∧ fr ≤ st.P.length ∧ count ≤ st.P.length - fr)) ∧ SL w' (A ++ F) := by
  have hP := hA.ok.pages
  refine Does.intro (args := [_, _]) (e := [(0, _), (1, _)]) Tryz.func251 rfl Tryz.ntmps251 rfl rfl ?_
  refine .st ?_
  refine .st ?_
  refine RunsE.region ?_
  refine .ex (Ex.box H rfl) rfl ?_; (try clear H); rintro _ w ⟨b2, rfl, H⟩; simp only [Value.cells] at H
  refine .au1 ?_
  refine .nil ?_
  by_cases h1 : 0 ≤ fr
  · by_cases h2 : 2 ≤ count
    · by_cases h3 : count ≤ 1024
      · by_cases h4 : fr ≤ st.P.length
        · by_cases h5 : count ≤ st.P.length - fr
          ·
            refine .st ?_
            refine RunsE.drawS H [] (by kernel_rfl) ?_; (try clear H); intro w H
            refine .tk 0 rfl H (fun w H => Ev.fieldAddr (o := 0) rfl (by kernel_rfl)) ?_
            refine .tk 1 rfl H (fun w H => Ev.ld H) ?_
            refine .tk 2 rfl H (fun w H => Ev.geq rfl rfl) ?_
            refine .tk 3 rfl H (fun w H => Ev.move rfl) ?_
            first | refine .tj 4 rfl rfl rfl H (fun w H => Ev.fieldAddr (o := 1) rfl (by kernel_rfl)) ?_ | refine .tq 4 rfl rfl H ?_
            first | refine .tj 5 rfl rfl rfl H (fun w H => Ev.ld H) ?_ | refine .tq 5 rfl rfl H ?_
            first | refine .tj 6 rfl rfl rfl H (fun w H => Ev.geq rfl rfl) ?_ | refine .tq 6 rfl rfl H ?_
            refine .tk 7 rfl H (fun w H => (by first | exact Ev.pickT rfl rfl | exact Ev.pickF rfl rfl)) ?_
            refine .tk 8 rfl H (fun w H => Ev.move rfl) ?_
            first | refine .tj 9 rfl rfl rfl H (fun w H => Ev.fieldAddr (o := 1) rfl (by kernel_rfl)) ?_ | refine .tq 9 rfl rfl H ?_
            first | refine .tj 10 rfl rfl rfl H (fun w H => Ev.ld H) ?_ | refine .tq 10 rfl rfl H ?_
            first | refine .tj 11 rfl rfl rfl H (fun w H => Ev.leq rfl rfl) ?_ | refine .tq 11 rfl rfl H ?_
            refine .tk 12 rfl H (fun w H => (by first | exact Ev.pickT rfl rfl | exact Ev.pickF rfl rfl)) ?_
            refine .tk 13 rfl H (fun w H => Ev.move rfl) ?_
            first | refine .tj 14 rfl rfl rfl H (fun w H => Ev.fieldAddr (o := 0) rfl (by kernel_rfl)) ?_ | refine .tq 14 rfl rfl H ?_
            first | refine .tj 15 rfl rfl rfl H (fun w H => Ev.ld H) ?_ | refine .tq 15 rfl rfl H ?_
            first | refine .tj 16 rfl rfl rfl H (fun w H => Ev.move rfl) ?_ | refine .tq 16 rfl rfl H ?_
            first | (refine OpsD.one 17 (by kernel_rfl) (StepD.exYes rfl rfl rfl (Ex.call rfl Tryz.call193 (pages_spec st p A w _ hA H.headL)) rfl ?_); (try clear H); rintro _ w ⟨rfl, H⟩; replace H := H.unmid; refine ⟨(by first | exact H | exact H.drop | exact H.drop.drop | exact H.dropL | exact H.drop.dropL | exact H.dropL.drop | exact H.dropL.dropL | exact H.dropMid | exact H.dropL.dropL.dropL | exact H.dropL.dropL.dropL.dropL), ?_⟩) | refine .tq 17 rfl rfl H ?_
            first | refine .tj 18 rfl rfl rfl (by first | exact H | exact H.drop | exact H.drop.drop | exact H.dropL | exact H.drop.dropL | exact H.dropL.drop | exact H.dropL.dropL | exact H.dropMid | exact H.dropL.dropL.dropL | exact H.dropL.dropL.dropL.dropL) (fun w H => Ev.leq rfl rfl) ?_ | refine .tq 18 rfl rfl (by first | exact H | exact H.drop | exact H.drop.drop | exact H.dropL | exact H.drop.dropL | exact H.dropL.drop | exact H.dropL.dropL | exact H.dropMid | exact H.dropL.dropL.dropL | exact H.dropL.dropL.dropL.dropL) ?_
            refine .tk 19 rfl (by first | exact H | exact H.drop | exact H.drop.drop | exact H.dropL | exact H.drop.dropL | exact H.dropL.drop | exact H.dropL.dropL | exact H.dropMid | exact H.dropL.dropL.dropL | exact H.dropL.dropL.dropL.dropL) (fun w H => (by first | exact Ev.pickT rfl rfl | exact Ev.pickF rfl rfl)) ?_
            refine .tk 20 rfl (by first | exact H | exact H.drop | exact H.drop.drop | exact H.dropL | exact H.drop.dropL | exact H.dropL.drop | exact H.dropL.dropL | exact H.dropMid | exact H.dropL.dropL.dropL | exact H.dropL.dropL.dropL.dropL) (fun w H => Ev.move rfl) ?_
            first | refine .tj 21 rfl rfl rfl (by first | exact H | exact H.drop | exact H.drop.drop | exact H.dropL | exact H.drop.dropL | exact H.dropL.drop | exact H.dropL.dropL | exact H.dropMid | exact H.dropL.dropL.dropL | exact H.dropL.dropL.dropL.dropL) (fun w H => Ev.fieldAddr (o := 1) rfl (by kernel_rfl)) ?_ | refine .tq 21 rfl rfl (by first | exact H | exact H.drop | exact H.drop.drop | exact H.dropL | exact H.drop.dropL | exact H.dropL.drop | exact H.dropL.dropL | exact H.dropMid | exact H.dropL.dropL.dropL | exact H.dropL.dropL.dropL.dropL) ?_
            first | refine .tj 22 rfl rfl rfl (by first | exact H | exact H.drop | exact H.drop.drop | exact H.dropL | exact H.drop.dropL | exact H.dropL.drop | exact H.dropL.dropL | exact H.dropMid | exact H.dropL.dropL.dropL | exact H.dropL.dropL.dropL.dropL) (fun w H => Ev.ld H) ?_ | refine .tq 22 rfl rfl (by first | exact H | exact H.drop | exact H.drop.drop | exact H.dropL | exact H.drop.dropL | exact H.dropL.drop | exact H.dropL.dropL | exact H.dropMid | exact H.dropL.dropL.dropL | exact H.dropL.dropL.dropL.dropL) ?_
            first | refine .tj 23 rfl rfl rfl (by first | exact H | exact H.drop | exact H.drop.drop | exact H.dropL | exact H.drop.dropL | exact H.dropL.drop | exact H.dropL.dropL | exact H.dropMid | exact H.dropL.dropL.dropL | exact H.dropL.dropL.dropL.dropL) (fun w H => Ev.move rfl) ?_ | refine .tq 23 rfl rfl (by first | exact H | exact H.drop | exact H.drop.drop | exact H.dropL | exact H.drop.dropL | exact H.dropL.drop | exact H.dropL.dropL | exact H.dropMid | exact H.dropL.dropL.dropL | exact H.dropL.dropL.dropL.dropL) ?_
            first | refine .tj 25 rfl rfl rfl (by first | exact H | exact H.drop | exact H.drop.drop | exact H.dropL | exact H.drop.dropL | exact H.dropL.drop | exact H.dropL.dropL | exact H.dropMid | exact H.dropL.dropL.dropL | exact H.dropL.dropL.dropL.dropL) (fun w H => Ev.fieldAddr (o := 0) rfl (by kernel_rfl)) ?_ | refine .tq 25 rfl rfl (by first | exact H | exact H.drop | exact H.drop.drop | exact H.dropL | exact H.drop.dropL | exact H.dropL.drop | exact H.dropL.dropL | exact H.dropMid | exact H.dropL.dropL.dropL | exact H.dropL.dropL.dropL.dropL) ?_
            first | refine .tj 26 rfl rfl rfl (by first | exact H | exact H.drop | exact H.drop.drop | exact H.dropL | exact H.drop.dropL | exact H.dropL.drop | exact H.dropL.dropL | exact H.dropMid | exact H.dropL.dropL.dropL | exact H.dropL.dropL.dropL.dropL) (fun w H => Ev.ld H) ?_ | refine .tq 26 rfl rfl (by first | exact H | exact H.drop | exact H.drop.drop | exact H.dropL | exact H.drop.dropL | exact H.dropL.drop | exact H.dropL.dropL | exact H.dropMid | exact H.dropL.dropL.dropL | exact H.dropL.dropL.dropL.dropL) ?_
            first | (refine OpsD.one 24 (by kernel_rfl) (StepD.exYes rfl rfl rfl (Ex.call rfl Tryz.call193 (pages_spec st p A w _ hA H.headL)) rfl ?_); (try clear H); rintro _ w ⟨rfl, H⟩; replace H := H.unmid; refine ⟨(by first | exact H | exact H.drop | exact H.drop.drop | exact H.dropL | exact H.drop.dropL | exact H.dropL.drop | exact H.dropL.dropL | exact H.dropMid | exact H.dropL.dropL.dropL | exact H.dropL.dropL.dropL.dropL), ?_⟩) | refine .tq 24 rfl rfl (by first | exact H | exact H.drop | exact H.drop.drop | exact H.dropL | exact H.drop.dropL | exact H.dropL.drop | exact H.dropL.dropL | exact H.dropMid | exact H.dropL.dropL.dropL | exact H.dropL.dropL.dropL.dropL) ?_
            first | refine .tj 27 rfl rfl rfl (by first | exact H | exact H.drop | exact H.drop.drop | exact H.dropL | exact H.drop.dropL | exact H.dropL.drop | exact H.dropL.dropL | exact H.dropMid | exact H.dropL.dropL.dropL | exact H.dropL.dropL.dropL.dropL) (fun w H => Ev.sub rfl rfl) ?_ | refine .tq 27 rfl rfl (by first | exact H | exact H.drop | exact H.drop.drop | exact H.dropL | exact H.drop.dropL | exact H.dropL.drop | exact H.dropL.dropL | exact H.dropMid | exact H.dropL.dropL.dropL | exact H.dropL.dropL.dropL.dropL) ?_
            first | refine .tj 28 rfl rfl rfl (by first | exact H | exact H.drop | exact H.drop.drop | exact H.dropL | exact H.drop.dropL | exact H.dropL.drop | exact H.dropL.dropL | exact H.dropMid | exact H.dropL.dropL.dropL | exact H.dropL.dropL.dropL.dropL) (fun w H => Ev.leq rfl rfl) ?_ | refine .tq 28 rfl rfl (by first | exact H | exact H.drop | exact H.drop.drop | exact H.dropL | exact H.drop.dropL | exact H.dropL.drop | exact H.dropL.dropL | exact H.dropMid | exact H.dropL.dropL.dropL | exact H.dropL.dropL.dropL.dropL) ?_
            refine .tk 29 rfl (by first | exact H | exact H.drop | exact H.drop.drop | exact H.dropL | exact H.drop.dropL | exact H.dropL.drop | exact H.dropL.dropL | exact H.dropMid | exact H.dropL.dropL.dropL | exact H.dropL.dropL.dropL.dropL) (fun w H => (by first | exact Ev.pickT rfl rfl | exact Ev.pickF rfl rfl)) ?_
            refine .tk 30 rfl (by first | exact H | exact H.drop | exact H.drop.drop | exact H.dropL | exact H.drop.dropL | exact H.dropL.drop | exact H.dropL.dropL | exact H.dropMid | exact H.dropL.dropL.dropL | exact H.dropL.dropL.dropL.dropL) (fun w H => Ev.assign rfl) ?_
            refine OpsD.done (by kernel_rfl) ?_
            refine .st ?_
            exact RunsE.ret1 Tryz.func251 rfl rfl ⟨by rw [decide_eq_true ⟨h1, h2, h3, h4, h5⟩], H.drop⟩
          ·
            refine .st ?_
            refine RunsE.drawS H [] (by kernel_rfl) ?_; (try clear H); intro w H
            refine .tk 0 rfl H (fun w H => Ev.fieldAddr (o := 0) rfl (by kernel_rfl)) ?_
            refine .tk 1 rfl H (fun w H => Ev.ld H) ?_
            refine .tk 2 rfl H (fun w H => Ev.geq rfl rfl) ?_
            refine .tk 3 rfl H (fun w H => Ev.move rfl) ?_
            first | refine .tj 4 rfl rfl rfl H (fun w H => Ev.fieldAddr (o := 1) rfl (by kernel_rfl)) ?_ | refine .tq 4 rfl rfl H ?_
            first | refine .tj 5 rfl rfl rfl H (fun w H => Ev.ld H) ?_ | refine .tq 5 rfl rfl H ?_
            first | refine .tj 6 rfl rfl rfl H (fun w H => Ev.geq rfl rfl) ?_ | refine .tq 6 rfl rfl H ?_
            refine .tk 7 rfl H (fun w H => (by first | exact Ev.pickT rfl rfl | exact Ev.pickF rfl rfl)) ?_
            refine .tk 8 rfl H (fun w H => Ev.move rfl) ?_
            first | refine .tj 9 rfl rfl rfl H (fun w H => Ev.fieldAddr (o := 1) rfl (by kernel_rfl)) ?_ | refine .tq 9 rfl rfl H ?_
            first | refine .tj 10 rfl rfl rfl H (fun w H => Ev.ld H) ?_ | refine .tq 10 rfl rfl H ?_
            first | refine .tj 11 rfl rfl rfl H (fun w H => Ev.leq rfl rfl) ?_ | refine .tq 11 rfl rfl H ?_
            refine .tk 12 rfl H (fun w H => (by first | exact Ev.pickT rfl rfl | exact Ev.pickF rfl rfl)) ?_
            refine .tk 13 rfl H (fun w H => Ev.move rfl) ?_
            first | refine .tj 14 rfl rfl rfl H (fun w H => Ev.fieldAddr (o := 0) rfl (by kernel_rfl)) ?_ | refine .tq 14 rfl rfl H ?_
            first | refine .tj 15 rfl rfl rfl H (fun w H => Ev.ld H) ?_ | refine .tq 15 rfl rfl H ?_
            first | refine .tj 16 rfl rfl rfl H (fun w H => Ev.move rfl) ?_ | refine .tq 16 rfl rfl H ?_
            first | (refine OpsD.one 17 (by kernel_rfl) (StepD.exYes rfl rfl rfl (Ex.call rfl Tryz.call193 (pages_spec st p A w _ hA H.headL)) rfl ?_); (try clear H); rintro _ w ⟨rfl, H⟩; replace H := H.unmid; refine ⟨(by first | exact H | exact H.drop | exact H.drop.drop | exact H.dropL | exact H.drop.dropL | exact H.dropL.drop | exact H.dropL.dropL | exact H.dropMid | exact H.dropL.dropL.dropL | exact H.dropL.dropL.dropL.dropL), ?_⟩) | refine .tq 17 rfl rfl H ?_
            first | refine .tj 18 rfl rfl rfl (by first | exact H | exact H.drop | exact H.drop.drop | exact H.dropL | exact H.drop.dropL | exact H.dropL.drop | exact H.dropL.dropL | exact H.dropMid | exact H.dropL.dropL.dropL | exact H.dropL.dropL.dropL.dropL) (fun w H => Ev.leq rfl rfl) ?_ | refine .tq 18 rfl rfl (by first | exact H | exact H.drop | exact H.drop.drop | exact H.dropL | exact H.drop.dropL | exact H.dropL.drop | exact H.dropL.dropL | exact H.dropMid | exact H.dropL.dropL.dropL | exact H.dropL.dropL.dropL.dropL) ?_
            refine .tk 19 rfl (by first | exact H | exact H.drop | exact H.drop.drop | exact H.dropL | exact H.drop.dropL | exact H.dropL.drop | exact H.dropL.dropL | exact H.dropMid | exact H.dropL.dropL.dropL | exact H.dropL.dropL.dropL.dropL) (fun w H => (by first | exact Ev.pickT rfl rfl | exact Ev.pickF rfl rfl)) ?_
            refine .tk 20 rfl (by first | exact H | exact H.drop | exact H.drop.drop | exact H.dropL | exact H.drop.dropL | exact H.dropL.drop | exact H.dropL.dropL | exact H.dropMid | exact H.dropL.dropL.dropL | exact H.dropL.dropL.dropL.dropL) (fun w H => Ev.move rfl) ?_
            first | refine .tj 21 rfl rfl rfl (by first | exact H | exact H.drop | exact H.drop.drop | exact H.dropL | exact H.drop.dropL | exact H.dropL.drop | exact H.dropL.dropL | exact H.dropMid | exact H.dropL.dropL.dropL | exact H.dropL.dropL.dropL.dropL) (fun w H => Ev.fieldAddr (o := 1) rfl (by kernel_rfl)) ?_ | refine .tq 21 rfl rfl (by first | exact H | exact H.drop | exact H.drop.drop | exact H.dropL | exact H.drop.dropL | exact H.dropL.drop | exact H.dropL.dropL | exact H.dropMid | exact H.dropL.dropL.dropL | exact H.dropL.dropL.dropL.dropL) ?_
            first | refine .tj 22 rfl rfl rfl (by first | exact H | exact H.drop | exact H.drop.drop | exact H.dropL | exact H.drop.dropL | exact H.dropL.drop | exact H.dropL.dropL | exact H.dropMid | exact H.dropL.dropL.dropL | exact H.dropL.dropL.dropL.dropL) (fun w H => Ev.ld H) ?_ | refine .tq 22 rfl rfl (by first | exact H | exact H.drop | exact H.drop.drop | exact H.dropL | exact H.drop.dropL | exact H.dropL.drop | exact H.dropL.dropL | exact H.dropMid | exact H.dropL.dropL.dropL | exact H.dropL.dropL.dropL.dropL) ?_
            first | refine .tj 23 rfl rfl rfl (by first | exact H | exact H.drop | exact H.drop.drop | exact H.dropL | exact H.drop.dropL | exact H.dropL.drop | exact H.dropL.dropL | exact H.dropMid | exact H.dropL.dropL.dropL | exact H.dropL.dropL.dropL.dropL) (fun w H => Ev.move rfl) ?_ | refine .tq 23 rfl rfl (by first | exact H | exact H.drop | exact H.drop.drop | exact H.dropL | exact H.drop.dropL | exact H.dropL.drop | exact H.dropL.dropL | exact H.dropMid | exact H.dropL.dropL.dropL | exact H.dropL.dropL.dropL.dropL) ?_
            first | refine .tj 25 rfl rfl rfl (by first | exact H | exact H.drop | exact H.drop.drop | exact H.dropL | exact H.drop.dropL | exact H.dropL.drop | exact H.dropL.dropL | exact H.dropMid | exact H.dropL.dropL.dropL | exact H.dropL.dropL.dropL.dropL) (fun w H => Ev.fieldAddr (o := 0) rfl (by kernel_rfl)) ?_ | refine .tq 25 rfl rfl (by first | exact H | exact H.drop | exact H.drop.drop | exact H.dropL | exact H.drop.dropL | exact H.dropL.drop | exact H.dropL.dropL | exact H.dropMid | exact H.dropL.dropL.dropL | exact H.dropL.dropL.dropL.dropL) ?_
            first | refine .tj 26 rfl rfl rfl (by first | exact H | exact H.drop | exact H.drop.drop | exact H.dropL | exact H.drop.dropL | exact H.dropL.drop | exact H.dropL.dropL | exact H.dropMid | exact H.dropL.dropL.dropL | exact H.dropL.dropL.dropL.dropL) (fun w H => Ev.ld H) ?_ | refine .tq 26 rfl rfl (by first | exact H | exact H.drop | exact H.drop.drop | exact H.dropL | exact H.drop.dropL | exact H.dropL.drop | exact H.dropL.dropL | exact H.dropMid | exact H.dropL.dropL.dropL | exact H.dropL.dropL.dropL.dropL) ?_
            first | (refine OpsD.one 24 (by kernel_rfl) (StepD.exYes rfl rfl rfl (Ex.call rfl Tryz.call193 (pages_spec st p A w _ hA H.headL)) rfl ?_); (try clear H); rintro _ w ⟨rfl, H⟩; replace H := H.unmid; refine ⟨(by first | exact H | exact H.drop | exact H.drop.drop | exact H.dropL | exact H.drop.dropL | exact H.dropL.drop | exact H.dropL.dropL | exact H.dropMid | exact H.dropL.dropL.dropL | exact H.dropL.dropL.dropL.dropL), ?_⟩) | refine .tq 24 rfl rfl (by first | exact H | exact H.drop | exact H.drop.drop | exact H.dropL | exact H.drop.dropL | exact H.dropL.drop | exact H.dropL.dropL | exact H.dropMid | exact H.dropL.dropL.dropL | exact H.dropL.dropL.dropL.dropL) ?_
            first | refine .tj 27 rfl rfl rfl (by first | exact H | exact H.drop | exact H.drop.drop | exact H.dropL | exact H.drop.dropL | exact H.dropL.drop | exact H.dropL.dropL | exact H.dropMid | exact H.dropL.dropL.dropL | exact H.dropL.dropL.dropL.dropL) (fun w H => Ev.sub rfl rfl) ?_ | refine .tq 27 rfl rfl (by first | exact H | exact H.drop | exact H.drop.drop | exact H.dropL | exact H.drop.dropL | exact H.dropL.drop | exact H.dropL.dropL | exact H.dropMid | exact H.dropL.dropL.dropL | exact H.dropL.dropL.dropL.dropL) ?_
            first | refine .tj 28 rfl rfl rfl (by first | exact H | exact H.drop | exact H.drop.drop | exact H.dropL | exact H.drop.dropL | exact H.dropL.drop | exact H.dropL.dropL | exact H.dropMid | exact H.dropL.dropL.dropL | exact H.dropL.dropL.dropL.dropL) (fun w H => Ev.leq rfl rfl) ?_ | refine .tq 28 rfl rfl (by first | exact H | exact H.drop | exact H.drop.drop | exact H.dropL | exact H.drop.dropL | exact H.dropL.drop | exact H.dropL.dropL | exact H.dropMid | exact H.dropL.dropL.dropL | exact H.dropL.dropL.dropL.dropL) ?_
            refine .tk 29 rfl (by first | exact H | exact H.drop | exact H.drop.drop | exact H.dropL | exact H.drop.dropL | exact H.dropL.drop | exact H.dropL.dropL | exact H.dropMid | exact H.dropL.dropL.dropL | exact H.dropL.dropL.dropL.dropL) (fun w H => (by first | exact Ev.pickT rfl rfl | exact Ev.pickF rfl rfl)) ?_
            refine .tk 30 rfl (by first | exact H | exact H.drop | exact H.drop.drop | exact H.dropL | exact H.drop.dropL | exact H.dropL.drop | exact H.dropL.dropL | exact H.dropMid | exact H.dropL.dropL.dropL | exact H.dropL.dropL.dropL.dropL) (fun w H => Ev.assign rfl) ?_
            refine OpsD.done (by kernel_rfl) ?_
            refine .st ?_
            exact RunsE.ret1 Tryz.func251 rfl rfl ⟨by rw [decide_eq_false fun h => h5 h.2.2.2.2], H.drop⟩
        ·
          refine .st ?_
          refine RunsE.drawS H [] (by kernel_rfl) ?_; (try clear H); intro w H
          refine .tk 0 rfl H (fun w H => Ev.fieldAddr (o := 0) rfl (by kernel_rfl)) ?_
          refine .tk 1 rfl H (fun w H => Ev.ld H) ?_
          refine .tk 2 rfl H (fun w H => Ev.geq rfl rfl) ?_
          refine .tk 3 rfl H (fun w H => Ev.move rfl) ?_
          first | refine .tj 4 rfl rfl rfl H (fun w H => Ev.fieldAddr (o := 1) rfl (by kernel_rfl)) ?_ | refine .tq 4 rfl rfl H ?_
          first | refine .tj 5 rfl rfl rfl H (fun w H => Ev.ld H) ?_ | refine .tq 5 rfl rfl H ?_
          first | refine .tj 6 rfl rfl rfl H (fun w H => Ev.geq rfl rfl) ?_ | refine .tq 6 rfl rfl H ?_
          refine .tk 7 rfl H (fun w H => (by first | exact Ev.pickT rfl rfl | exact Ev.pickF rfl rfl)) ?_
          refine .tk 8 rfl H (fun w H => Ev.move rfl) ?_
          first | refine .tj 9 rfl rfl rfl H (fun w H => Ev.fieldAddr (o := 1) rfl (by kernel_rfl)) ?_ | refine .tq 9 rfl rfl H ?_
          first | refine .tj 10 rfl rfl rfl H (fun w H => Ev.ld H) ?_ | refine .tq 10 rfl rfl H ?_
          first | refine .tj 11 rfl rfl rfl H (fun w H => Ev.leq rfl rfl) ?_ | refine .tq 11 rfl rfl H ?_
          refine .tk 12 rfl H (fun w H => (by first | exact Ev.pickT rfl rfl | exact Ev.pickF rfl rfl)) ?_
          refine .tk 13 rfl H (fun w H => Ev.move rfl) ?_
          first | refine .tj 14 rfl rfl rfl H (fun w H => Ev.fieldAddr (o := 0) rfl (by kernel_rfl)) ?_ | refine .tq 14 rfl rfl H ?_
          first | refine .tj 15 rfl rfl rfl H (fun w H => Ev.ld H) ?_ | refine .tq 15 rfl rfl H ?_
          first | refine .tj 16 rfl rfl rfl H (fun w H => Ev.move rfl) ?_ | refine .tq 16 rfl rfl H ?_
          first | (refine OpsD.one 17 (by kernel_rfl) (StepD.exYes rfl rfl rfl (Ex.call rfl Tryz.call193 (pages_spec st p A w _ hA H.headL)) rfl ?_); (try clear H); rintro _ w ⟨rfl, H⟩; replace H := H.unmid; refine ⟨(by first | exact H | exact H.drop | exact H.drop.drop | exact H.dropL | exact H.drop.dropL | exact H.dropL.drop | exact H.dropL.dropL | exact H.dropMid | exact H.dropL.dropL.dropL | exact H.dropL.dropL.dropL.dropL), ?_⟩) | refine .tq 17 rfl rfl H ?_
          first | refine .tj 18 rfl rfl rfl (by first | exact H | exact H.drop | exact H.drop.drop | exact H.dropL | exact H.drop.dropL | exact H.dropL.drop | exact H.dropL.dropL | exact H.dropMid | exact H.dropL.dropL.dropL | exact H.dropL.dropL.dropL.dropL) (fun w H => Ev.leq rfl rfl) ?_ | refine .tq 18 rfl rfl (by first | exact H | exact H.drop | exact H.drop.drop | exact H.dropL | exact H.drop.dropL | exact H.dropL.drop | exact H.dropL.dropL | exact H.dropMid | exact H.dropL.dropL.dropL | exact H.dropL.dropL.dropL.dropL) ?_
          refine .tk 19 rfl (by first | exact H | exact H.drop | exact H.drop.drop | exact H.dropL | exact H.drop.dropL | exact H.dropL.drop | exact H.dropL.dropL | exact H.dropMid | exact H.dropL.dropL.dropL | exact H.dropL.dropL.dropL.dropL) (fun w H => (by first | exact Ev.pickT rfl rfl | exact Ev.pickF rfl rfl)) ?_
          refine .tk 20 rfl (by first | exact H | exact H.drop | exact H.drop.drop | exact H.dropL | exact H.drop.dropL | exact H.dropL.drop | exact H.dropL.dropL | exact H.dropMid | exact H.dropL.dropL.dropL | exact H.dropL.dropL.dropL.dropL) (fun w H => Ev.move rfl) ?_
          first | refine .tj 21 rfl rfl rfl (by first | exact H | exact H.drop | exact H.drop.drop | exact H.dropL | exact H.drop.dropL | exact H.dropL.drop | exact H.dropL.dropL | exact H.dropMid | exact H.dropL.dropL.dropL | exact H.dropL.dropL.dropL.dropL) (fun w H => Ev.fieldAddr (o := 1) rfl (by kernel_rfl)) ?_ | refine .tq 21 rfl rfl (by first | exact H | exact H.drop | exact H.drop.drop | exact H.dropL | exact H.drop.dropL | exact H.dropL.drop | exact H.dropL.dropL | exact H.dropMid | exact H.dropL.dropL.dropL | exact H.dropL.dropL.dropL.dropL) ?_
          first | refine .tj 22 rfl rfl rfl (by first | exact H | exact H.drop | exact H.drop.drop | exact H.dropL | exact H.drop.dropL | exact H.dropL.drop | exact H.dropL.dropL | exact H.dropMid | exact H.dropL.dropL.dropL | exact H.dropL.dropL.dropL.dropL) (fun w H => Ev.ld H) ?_ | refine .tq 22 rfl rfl (by first | exact H | exact H.drop | exact H.drop.drop | exact H.dropL | exact H.drop.dropL | exact H.dropL.drop | exact H.dropL.dropL | exact H.dropMid | exact H.dropL.dropL.dropL | exact H.dropL.dropL.dropL.dropL) ?_
          first | refine .tj 23 rfl rfl rfl (by first | exact H | exact H.drop | exact H.drop.drop | exact H.dropL | exact H.drop.dropL | exact H.dropL.drop | exact H.dropL.dropL | exact H.dropMid | exact H.dropL.dropL.dropL | exact H.dropL.dropL.dropL.dropL) (fun w H => Ev.move rfl) ?_ | refine .tq 23 rfl rfl (by first | exact H | exact H.drop | exact H.drop.drop | exact H.dropL | exact H.drop.dropL | exact H.dropL.drop | exact H.dropL.dropL | exact H.dropMid | exact H.dropL.dropL.dropL | exact H.dropL.dropL.dropL.dropL) ?_
          first | refine .tj 25 rfl rfl rfl (by first | exact H | exact H.drop | exact H.drop.drop | exact H.dropL | exact H.drop.dropL | exact H.dropL.drop | exact H.dropL.dropL | exact H.dropMid | exact H.dropL.dropL.dropL | exact H.dropL.dropL.dropL.dropL) (fun w H => Ev.fieldAddr (o := 0) rfl (by kernel_rfl)) ?_ | refine .tq 25 rfl rfl (by first | exact H | exact H.drop | exact H.drop.drop | exact H.dropL | exact H.drop.dropL | exact H.dropL.drop | exact H.dropL.dropL | exact H.dropMid | exact H.dropL.dropL.dropL | exact H.dropL.dropL.dropL.dropL) ?_
          first | refine .tj 26 rfl rfl rfl (by first | exact H | exact H.drop | exact H.drop.drop | exact H.dropL | exact H.drop.dropL | exact H.dropL.drop | exact H.dropL.dropL | exact H.dropMid | exact H.dropL.dropL.dropL | exact H.dropL.dropL.dropL.dropL) (fun w H => Ev.ld H) ?_ | refine .tq 26 rfl rfl (by first | exact H | exact H.drop | exact H.drop.drop | exact H.dropL | exact H.drop.dropL | exact H.dropL.drop | exact H.dropL.dropL | exact H.dropMid | exact H.dropL.dropL.dropL | exact H.dropL.dropL.dropL.dropL) ?_
          first | (refine OpsD.one 24 (by kernel_rfl) (StepD.exYes rfl rfl rfl (Ex.call rfl Tryz.call193 (pages_spec st p A w _ hA H.headL)) rfl ?_); (try clear H); rintro _ w ⟨rfl, H⟩; replace H := H.unmid; refine ⟨(by first | exact H | exact H.drop | exact H.drop.drop | exact H.dropL | exact H.drop.dropL | exact H.dropL.drop | exact H.dropL.dropL | exact H.dropMid | exact H.dropL.dropL.dropL | exact H.dropL.dropL.dropL.dropL), ?_⟩) | refine .tq 24 rfl rfl (by first | exact H | exact H.drop | exact H.drop.drop | exact H.dropL | exact H.drop.dropL | exact H.dropL.drop | exact H.dropL.dropL | exact H.dropMid | exact H.dropL.dropL.dropL | exact H.dropL.dropL.dropL.dropL) ?_
          first | refine .tj 27 rfl rfl rfl (by first | exact H | exact H.drop | exact H.drop.drop | exact H.dropL | exact H.drop.dropL | exact H.dropL.drop | exact H.dropL.dropL | exact H.dropMid | exact H.dropL.dropL.dropL | exact H.dropL.dropL.dropL.dropL) (fun w H => Ev.sub rfl rfl) ?_ | refine .tq 27 rfl rfl (by first | exact H | exact H.drop | exact H.drop.drop | exact H.dropL | exact H.drop.dropL | exact H.dropL.drop | exact H.dropL.dropL | exact H.dropMid | exact H.dropL.dropL.dropL | exact H.dropL.dropL.dropL.dropL) ?_
          first | refine .tj 28 rfl rfl rfl (by first | exact H | exact H.drop | exact H.drop.drop | exact H.dropL | exact H.drop.dropL | exact H.dropL.drop | exact H.dropL.dropL | exact H.dropMid | exact H.dropL.dropL.dropL | exact H.dropL.dropL.dropL.dropL) (fun w H => Ev.leq rfl rfl) ?_ | refine .tq 28 rfl rfl (by first | exact H | exact H.drop | exact H.drop.drop | exact H.dropL | exact H.drop.dropL | exact H.dropL.drop | exact H.dropL.dropL | exact H.dropMid | exact H.dropL.dropL.dropL | exact H.dropL.dropL.dropL.dropL) ?_
          refine .tk 29 rfl (by first | exact H | exact H.drop | exact H.drop.drop | exact H.dropL | exact H.drop.dropL | exact H.dropL.drop | exact H.dropL.dropL | exact H.dropMid | exact H.dropL.dropL.dropL | exact H.dropL.dropL.dropL.dropL) (fun w H => (by first | exact Ev.pickT rfl rfl | exact Ev.pickF rfl rfl)) ?_
          refine .tk 30 rfl (by first | exact H | exact H.drop | exact H.drop.drop | exact H.dropL | exact H.drop.dropL | exact H.dropL.drop | exact H.dropL.dropL | exact H.dropMid | exact H.dropL.dropL.dropL | exact H.dropL.dropL.dropL.dropL) (fun w H => Ev.assign rfl) ?_
          refine OpsD.done (by kernel_rfl) ?_
          refine .st ?_
          exact RunsE.ret1 Tryz.func251 rfl rfl ⟨by rw [decide_eq_false fun h => h4 h.2.2.2.1], H.drop⟩
      ·
        refine .st ?_
        refine RunsE.drawS H [] (by kernel_rfl) ?_; (try clear H); intro w H
        refine .tk 0 rfl H (fun w H => Ev.fieldAddr (o := 0) rfl (by kernel_rfl)) ?_
        refine .tk 1 rfl H (fun w H => Ev.ld H) ?_
        refine .tk 2 rfl H (fun w H => Ev.geq rfl rfl) ?_
        refine .tk 3 rfl H (fun w H => Ev.move rfl) ?_
        first | refine .tj 4 rfl rfl rfl H (fun w H => Ev.fieldAddr (o := 1) rfl (by kernel_rfl)) ?_ | refine .tq 4 rfl rfl H ?_
        first | refine .tj 5 rfl rfl rfl H (fun w H => Ev.ld H) ?_ | refine .tq 5 rfl rfl H ?_
        first | refine .tj 6 rfl rfl rfl H (fun w H => Ev.geq rfl rfl) ?_ | refine .tq 6 rfl rfl H ?_
        refine .tk 7 rfl H (fun w H => (by first | exact Ev.pickT rfl rfl | exact Ev.pickF rfl rfl)) ?_
        refine .tk 8 rfl H (fun w H => Ev.move rfl) ?_
        first | refine .tj 9 rfl rfl rfl H (fun w H => Ev.fieldAddr (o := 1) rfl (by kernel_rfl)) ?_ | refine .tq 9 rfl rfl H ?_
        first | refine .tj 10 rfl rfl rfl H (fun w H => Ev.ld H) ?_ | refine .tq 10 rfl rfl H ?_
        first | refine .tj 11 rfl rfl rfl H (fun w H => Ev.leq rfl rfl) ?_ | refine .tq 11 rfl rfl H ?_
        refine .tk 12 rfl H (fun w H => (by first | exact Ev.pickT rfl rfl | exact Ev.pickF rfl rfl)) ?_
        refine .tk 13 rfl H (fun w H => Ev.move rfl) ?_
        first | refine .tj 14 rfl rfl rfl H (fun w H => Ev.fieldAddr (o := 0) rfl (by kernel_rfl)) ?_ | refine .tq 14 rfl rfl H ?_
        first | refine .tj 15 rfl rfl rfl H (fun w H => Ev.ld H) ?_ | refine .tq 15 rfl rfl H ?_
        first | refine .tj 16 rfl rfl rfl H (fun w H => Ev.move rfl) ?_ | refine .tq 16 rfl rfl H ?_
        first | (refine OpsD.one 17 (by kernel_rfl) (StepD.exYes rfl rfl rfl (Ex.call rfl Tryz.call193 (pages_spec st p A w _ hA H.headL)) rfl ?_); (try clear H); rintro _ w ⟨rfl, H⟩; replace H := H.unmid; refine ⟨(by first | exact H | exact H.drop | exact H.drop.drop | exact H.dropL | exact H.drop.dropL | exact H.dropL.drop | exact H.dropL.dropL | exact H.dropMid | exact H.dropL.dropL.dropL | exact H.dropL.dropL.dropL.dropL), ?_⟩) | refine .tq 17 rfl rfl H ?_
        first | refine .tj 18 rfl rfl rfl (by first | exact H | exact H.drop | exact H.drop.drop | exact H.dropL | exact H.drop.dropL | exact H.dropL.drop | exact H.dropL.dropL | exact H.dropMid | exact H.dropL.dropL.dropL | exact H.dropL.dropL.dropL.dropL) (fun w H => Ev.leq rfl rfl) ?_ | refine .tq 18 rfl rfl (by first | exact H | exact H.drop | exact H.drop.drop | exact H.dropL | exact H.drop.dropL | exact H.dropL.drop | exact H.dropL.dropL | exact H.dropMid | exact H.dropL.dropL.dropL | exact H.dropL.dropL.dropL.dropL) ?_
        refine .tk 19 rfl (by first | exact H | exact H.drop | exact H.drop.drop | exact H.dropL | exact H.drop.dropL | exact H.dropL.drop | exact H.dropL.dropL | exact H.dropMid | exact H.dropL.dropL.dropL | exact H.dropL.dropL.dropL.dropL) (fun w H => (by first | exact Ev.pickT rfl rfl | exact Ev.pickF rfl rfl)) ?_
        refine .tk 20 rfl (by first | exact H | exact H.drop | exact H.drop.drop | exact H.dropL | exact H.drop.dropL | exact H.dropL.drop | exact H.dropL.dropL | exact H.dropMid | exact H.dropL.dropL.dropL | exact H.dropL.dropL.dropL.dropL) (fun w H => Ev.move rfl) ?_
        first | refine .tj 21 rfl rfl rfl (by first | exact H | exact H.drop | exact H.drop.drop | exact H.dropL | exact H.drop.dropL | exact H.dropL.drop | exact H.dropL.dropL | exact H.dropMid | exact H.dropL.dropL.dropL | exact H.dropL.dropL.dropL.dropL) (fun w H => Ev.fieldAddr (o := 1) rfl (by kernel_rfl)) ?_ | refine .tq 21 rfl rfl (by first | exact H | exact H.drop | exact H.drop.drop | exact H.dropL | exact H.drop.dropL | exact H.dropL.drop | exact H.dropL.dropL | exact H.dropMid | exact H.dropL.dropL.dropL | exact H.dropL.dropL.dropL.dropL) ?_
        first | refine .tj 22 rfl rfl rfl (by first | exact H | exact H.drop | exact H.drop.drop | exact H.dropL | exact H.drop.dropL | exact H.dropL.drop | exact H.dropL.dropL | exact H.dropMid | exact H.dropL.dropL.dropL | exact H.dropL.dropL.dropL.dropL) (fun w H => Ev.ld H) ?_ | refine .tq 22 rfl rfl (by first | exact H | exact H.drop | exact H.drop.drop | exact H.dropL | exact H.drop.dropL | exact H.dropL.drop | exact H.dropL.dropL | exact H.dropMid | exact H.dropL.dropL.dropL | exact H.dropL.dropL.dropL.dropL) ?_
        first | refine .tj 23 rfl rfl rfl (by first | exact H | exact H.drop | exact H.drop.drop | exact H.dropL | exact H.drop.dropL | exact H.dropL.drop | exact H.dropL.dropL | exact H.dropMid | exact H.dropL.dropL.dropL | exact H.dropL.dropL.dropL.dropL) (fun w H => Ev.move rfl) ?_ | refine .tq 23 rfl rfl (by first | exact H | exact H.drop | exact H.drop.drop | exact H.dropL | exact H.drop.dropL | exact H.dropL.drop | exact H.dropL.dropL | exact H.dropMid | exact H.dropL.dropL.dropL | exact H.dropL.dropL.dropL.dropL) ?_
        first | refine .tj 25 rfl rfl rfl (by first | exact H | exact H.drop | exact H.drop.drop | exact H.dropL | exact H.drop.dropL | exact H.dropL.drop | exact H.dropL.dropL | exact H.dropMid | exact H.dropL.dropL.dropL | exact H.dropL.dropL.dropL.dropL) (fun w H => Ev.fieldAddr (o := 0) rfl (by kernel_rfl)) ?_ | refine .tq 25 rfl rfl (by first | exact H | exact H.drop | exact H.drop.drop | exact H.dropL | exact H.drop.dropL | exact H.dropL.drop | exact H.dropL.dropL | exact H.dropMid | exact H.dropL.dropL.dropL | exact H.dropL.dropL.dropL.dropL) ?_
        first | refine .tj 26 rfl rfl rfl (by first | exact H | exact H.drop | exact H.drop.drop | exact H.dropL | exact H.drop.dropL | exact H.dropL.drop | exact H.dropL.dropL | exact H.dropMid | exact H.dropL.dropL.dropL | exact H.dropL.dropL.dropL.dropL) (fun w H => Ev.ld H) ?_ | refine .tq 26 rfl rfl (by first | exact H | exact H.drop | exact H.drop.drop | exact H.dropL | exact H.drop.dropL | exact H.dropL.drop | exact H.dropL.dropL | exact H.dropMid | exact H.dropL.dropL.dropL | exact H.dropL.dropL.dropL.dropL) ?_
        first | (refine OpsD.one 24 (by kernel_rfl) (StepD.exYes rfl rfl rfl (Ex.call rfl Tryz.call193 (pages_spec st p A w _ hA H.headL)) rfl ?_); (try clear H); rintro _ w ⟨rfl, H⟩; replace H := H.unmid; refine ⟨(by first | exact H | exact H.drop | exact H.drop.drop | exact H.dropL | exact H.drop.dropL | exact H.dropL.drop | exact H.dropL.dropL | exact H.dropMid | exact H.dropL.dropL.dropL | exact H.dropL.dropL.dropL.dropL), ?_⟩) | refine .tq 24 rfl rfl (by first | exact H | exact H.drop | exact H.drop.drop | exact H.dropL | exact H.drop.dropL | exact H.dropL.drop | exact H.dropL.dropL | exact H.dropMid | exact H.dropL.dropL.dropL | exact H.dropL.dropL.dropL.dropL) ?_
        first | refine .tj 27 rfl rfl rfl (by first | exact H | exact H.drop | exact H.drop.drop | exact H.dropL | exact H.drop.dropL | exact H.dropL.drop | exact H.dropL.dropL | exact H.dropMid | exact H.dropL.dropL.dropL | exact H.dropL.dropL.dropL.dropL) (fun w H => Ev.sub rfl rfl) ?_ | refine .tq 27 rfl rfl (by first | exact H | exact H.drop | exact H.drop.drop | exact H.dropL | exact H.drop.dropL | exact H.dropL.drop | exact H.dropL.dropL | exact H.dropMid | exact H.dropL.dropL.dropL | exact H.dropL.dropL.dropL.dropL) ?_
        first | refine .tj 28 rfl rfl rfl (by first | exact H | exact H.drop | exact H.drop.drop | exact H.dropL | exact H.drop.dropL | exact H.dropL.drop | exact H.dropL.dropL | exact H.dropMid | exact H.dropL.dropL.dropL | exact H.dropL.dropL.dropL.dropL) (fun w H => Ev.leq rfl rfl) ?_ | refine .tq 28 rfl rfl (by first | exact H | exact H.drop | exact H.drop.drop | exact H.dropL | exact H.drop.dropL | exact H.dropL.drop | exact H.dropL.dropL | exact H.dropMid | exact H.dropL.dropL.dropL | exact H.dropL.dropL.dropL.dropL) ?_
        refine .tk 29 rfl (by first | exact H | exact H.drop | exact H.drop.drop | exact H.dropL | exact H.drop.dropL | exact H.dropL.drop | exact H.dropL.dropL | exact H.dropMid | exact H.dropL.dropL.dropL | exact H.dropL.dropL.dropL.dropL) (fun w H => (by first | exact Ev.pickT rfl rfl | exact Ev.pickF rfl rfl)) ?_
        refine .tk 30 rfl (by first | exact H | exact H.drop | exact H.drop.drop | exact H.dropL | exact H.drop.dropL | exact H.dropL.drop | exact H.dropL.dropL | exact H.dropMid | exact H.dropL.dropL.dropL | exact H.dropL.dropL.dropL.dropL) (fun w H => Ev.assign rfl) ?_
        refine OpsD.done (by kernel_rfl) ?_
        refine .st ?_
        exact RunsE.ret1 Tryz.func251 rfl rfl ⟨by rw [decide_eq_false fun h => h3 h.2.2.1], H.drop⟩
    ·
      refine .st ?_
      refine RunsE.drawS H [] (by kernel_rfl) ?_; (try clear H); intro w H
      refine .tk 0 rfl H (fun w H => Ev.fieldAddr (o := 0) rfl (by kernel_rfl)) ?_
      refine .tk 1 rfl H (fun w H => Ev.ld H) ?_
      refine .tk 2 rfl H (fun w H => Ev.geq rfl rfl) ?_
      refine .tk 3 rfl H (fun w H => Ev.move rfl) ?_
      first | refine .tj 4 rfl rfl rfl H (fun w H => Ev.fieldAddr (o := 1) rfl (by kernel_rfl)) ?_ | refine .tq 4 rfl rfl H ?_
      first | refine .tj 5 rfl rfl rfl H (fun w H => Ev.ld H) ?_ | refine .tq 5 rfl rfl H ?_
      first | refine .tj 6 rfl rfl rfl H (fun w H => Ev.geq rfl rfl) ?_ | refine .tq 6 rfl rfl H ?_
      refine .tk 7 rfl H (fun w H => (by first | exact Ev.pickT rfl rfl | exact Ev.pickF rfl rfl)) ?_
      refine .tk 8 rfl H (fun w H => Ev.move rfl) ?_
      first | refine .tj 9 rfl rfl rfl H (fun w H => Ev.fieldAddr (o := 1) rfl (by kernel_rfl)) ?_ | refine .tq 9 rfl rfl H ?_
      first | refine .tj 10 rfl rfl rfl H (fun w H => Ev.ld H) ?_ | refine .tq 10 rfl rfl H ?_
      first | refine .tj 11 rfl rfl rfl H (fun w H => Ev.leq rfl rfl) ?_ | refine .tq 11 rfl rfl H ?_
      refine .tk 12 rfl H (fun w H => (by first | exact Ev.pickT rfl rfl | exact Ev.pickF rfl rfl)) ?_
      refine .tk 13 rfl H (fun w H => Ev.move rfl) ?_
      first | refine .tj 14 rfl rfl rfl H (fun w H => Ev.fieldAddr (o := 0) rfl (by kernel_rfl)) ?_ | refine .tq 14 rfl rfl H ?_
      first | refine .tj 15 rfl rfl rfl H (fun w H => Ev.ld H) ?_ | refine .tq 15 rfl rfl H ?_
      first | refine .tj 16 rfl rfl rfl H (fun w H => Ev.move rfl) ?_ | refine .tq 16 rfl rfl H ?_
      first | (refine OpsD.one 17 (by kernel_rfl) (StepD.exYes rfl rfl rfl (Ex.call rfl Tryz.call193 (pages_spec st p A w _ hA H.headL)) rfl ?_); (try clear H); rintro _ w ⟨rfl, H⟩; replace H := H.unmid; refine ⟨(by first | exact H | exact H.drop | exact H.drop.drop | exact H.dropL | exact H.drop.dropL | exact H.dropL.drop | exact H.dropL.dropL | exact H.dropMid | exact H.dropL.dropL.dropL | exact H.dropL.dropL.dropL.dropL), ?_⟩) | refine .tq 17 rfl rfl H ?_
      first | refine .tj 18 rfl rfl rfl (by first | exact H | exact H.drop | exact H.drop.drop | exact H.dropL | exact H.drop.dropL | exact H.dropL.drop | exact H.dropL.dropL | exact H.dropMid | exact H.dropL.dropL.dropL | exact H.dropL.dropL.dropL.dropL) (fun w H => Ev.leq rfl rfl) ?_ | refine .tq 18 rfl rfl (by first | exact H | exact H.drop | exact H.drop.drop | exact H.dropL | exact H.drop.dropL | exact H.dropL.drop | exact H.dropL.dropL | exact H.dropMid | exact H.dropL.dropL.dropL | exact H.dropL.dropL.dropL.dropL) ?_
      refine .tk 19 rfl (by first | exact H | exact H.drop | exact H.drop.drop | exact H.dropL | exact H.drop.dropL | exact H.dropL.drop | exact H.dropL.dropL | exact H.dropMid | exact H.dropL.dropL.dropL | exact H.dropL.dropL.dropL.dropL) (fun w H => (by first | exact Ev.pickT rfl rfl | exact Ev.pickF rfl rfl)) ?_
      refine .tk 20 rfl (by first | exact H | exact H.drop | exact H.drop.drop | exact H.dropL | exact H.drop.dropL | exact H.dropL.drop | exact H.dropL.dropL | exact H.dropMid | exact H.dropL.dropL.dropL | exact H.dropL.dropL.dropL.dropL) (fun w H => Ev.move rfl) ?_
      first | refine .tj 21 rfl rfl rfl (by first | exact H | exact H.drop | exact H.drop.drop | exact H.dropL | exact H.drop.dropL | exact H.dropL.drop | exact H.dropL.dropL | exact H.dropMid | exact H.dropL.dropL.dropL | exact H.dropL.dropL.dropL.dropL) (fun w H => Ev.fieldAddr (o := 1) rfl (by kernel_rfl)) ?_ | refine .tq 21 rfl rfl (by first | exact H | exact H.drop | exact H.drop.drop | exact H.dropL | exact H.drop.dropL | exact H.dropL.drop | exact H.dropL.dropL | exact H.dropMid | exact H.dropL.dropL.dropL | exact H.dropL.dropL.dropL.dropL) ?_
      first | refine .tj 22 rfl rfl rfl (by first | exact H | exact H.drop | exact H.drop.drop | exact H.dropL | exact H.drop.dropL | exact H.dropL.drop | exact H.dropL.dropL | exact H.dropMid | exact H.dropL.dropL.dropL | exact H.dropL.dropL.dropL.dropL) (fun w H => Ev.ld H) ?_ | refine .tq 22 rfl rfl (by first | exact H | exact H.drop | exact H.drop.drop | exact H.dropL | exact H.drop.dropL | exact H.dropL.drop | exact H.dropL.dropL | exact H.dropMid | exact H.dropL.dropL.dropL | exact H.dropL.dropL.dropL.dropL) ?_
      first | refine .tj 23 rfl rfl rfl (by first | exact H | exact H.drop | exact H.drop.drop | exact H.dropL | exact H.drop.dropL | exact H.dropL.drop | exact H.dropL.dropL | exact H.dropMid | exact H.dropL.dropL.dropL | exact H.dropL.dropL.dropL.dropL) (fun w H => Ev.move rfl) ?_ | refine .tq 23 rfl rfl (by first | exact H | exact H.drop | exact H.drop.drop | exact H.dropL | exact H.drop.dropL | exact H.dropL.drop | exact H.dropL.dropL | exact H.dropMid | exact H.dropL.dropL.dropL | exact H.dropL.dropL.dropL.dropL) ?_
      first | refine .tj 25 rfl rfl rfl (by first | exact H | exact H.drop | exact H.drop.drop | exact H.dropL | exact H.drop.dropL | exact H.dropL.drop | exact H.dropL.dropL | exact H.dropMid | exact H.dropL.dropL.dropL | exact H.dropL.dropL.dropL.dropL) (fun w H => Ev.fieldAddr (o := 0) rfl (by kernel_rfl)) ?_ | refine .tq 25 rfl rfl (by first | exact H | exact H.drop | exact H.drop.drop | exact H.dropL | exact H.drop.dropL | exact H.dropL.drop | exact H.dropL.dropL | exact H.dropMid | exact H.dropL.dropL.dropL | exact H.dropL.dropL.dropL.dropL) ?_
      first | refine .tj 26 rfl rfl rfl (by first | exact H | exact H.drop | exact H.drop.drop | exact H.dropL | exact H.drop.dropL | exact H.dropL.drop | exact H.dropL.dropL | exact H.dropMid | exact H.dropL.dropL.dropL | exact H.dropL.dropL.dropL.dropL) (fun w H => Ev.ld H) ?_ | refine .tq 26 rfl rfl (by first | exact H | exact H.drop | exact H.drop.drop | exact H.dropL | exact H.drop.dropL | exact H.dropL.drop | exact H.dropL.dropL | exact H.dropMid | exact H.dropL.dropL.dropL | exact H.dropL.dropL.dropL.dropL) ?_
      first | (refine OpsD.one 24 (by kernel_rfl) (StepD.exYes rfl rfl rfl (Ex.call rfl Tryz.call193 (pages_spec st p A w _ hA H.headL)) rfl ?_); (try clear H); rintro _ w ⟨rfl, H⟩; replace H := H.unmid; refine ⟨(by first | exact H | exact H.drop | exact H.drop.drop | exact H.dropL | exact H.drop.dropL | exact H.dropL.drop | exact H.dropL.dropL | exact H.dropMid | exact H.dropL.dropL.dropL | exact H.dropL.dropL.dropL.dropL), ?_⟩) | refine .tq 24 rfl rfl (by first | exact H | exact H.drop | exact H.drop.drop | exact H.dropL | exact H.drop.dropL | exact H.dropL.drop | exact H.dropL.dropL | exact H.dropMid | exact H.dropL.dropL.dropL | exact H.dropL.dropL.dropL.dropL) ?_
      first | refine .tj 27 rfl rfl rfl (by first | exact H | exact H.drop | exact H.drop.drop | exact H.dropL | exact H.drop.dropL | exact H.dropL.drop | exact H.dropL.dropL | exact H.dropMid | exact H.dropL.dropL.dropL | exact H.dropL.dropL.dropL.dropL) (fun w H => Ev.sub rfl rfl) ?_ | refine .tq 27 rfl rfl (by first | exact H | exact H.drop | exact H.drop.drop | exact H.dropL | exact H.drop.dropL | exact H.dropL.drop | exact H.dropL.dropL | exact H.dropMid | exact H.dropL.dropL.dropL | exact H.dropL.dropL.dropL.dropL) ?_
      first | refine .tj 28 rfl rfl rfl (by first | exact H | exact H.drop | exact H.drop.drop | exact H.dropL | exact H.drop.dropL | exact H.dropL.drop | exact H.dropL.dropL | exact H.dropMid | exact H.dropL.dropL.dropL | exact H.dropL.dropL.dropL.dropL) (fun w H => Ev.leq rfl rfl) ?_ | refine .tq 28 rfl rfl (by first | exact H | exact H.drop | exact H.drop.drop | exact H.dropL | exact H.drop.dropL | exact H.dropL.drop | exact H.dropL.dropL | exact H.dropMid | exact H.dropL.dropL.dropL | exact H.dropL.dropL.dropL.dropL) ?_
      refine .tk 29 rfl (by first | exact H | exact H.drop | exact H.drop.drop | exact H.dropL | exact H.drop.dropL | exact H.dropL.drop | exact H.dropL.dropL | exact H.dropMid | exact H.dropL.dropL.dropL | exact H.dropL.dropL.dropL.dropL) (fun w H => (by first | exact Ev.pickT rfl rfl | exact Ev.pickF rfl rfl)) ?_
      refine .tk 30 rfl (by first | exact H | exact H.drop | exact H.drop.drop | exact H.dropL | exact H.drop.dropL | exact H.dropL.drop | exact H.dropL.dropL | exact H.dropMid | exact H.dropL.dropL.dropL | exact H.dropL.dropL.dropL.dropL) (fun w H => Ev.assign rfl) ?_
      refine OpsD.done (by kernel_rfl) ?_
      refine .st ?_
      exact RunsE.ret1 Tryz.func251 rfl rfl ⟨by rw [decide_eq_false fun h => h2 h.2.1], H.drop⟩
  ·
    refine .st ?_
    refine RunsE.drawS H [] (by kernel_rfl) ?_; (try clear H); intro w H
    refine .tk 0 rfl H (fun w H => Ev.fieldAddr (o := 0) rfl (by kernel_rfl)) ?_
    refine .tk 1 rfl H (fun w H => Ev.ld H) ?_
    refine .tk 2 rfl H (fun w H => Ev.geq rfl rfl) ?_
    refine .tk 3 rfl H (fun w H => Ev.move rfl) ?_
    first | refine .tj 4 rfl rfl rfl H (fun w H => Ev.fieldAddr (o := 1) rfl (by kernel_rfl)) ?_ | refine .tq 4 rfl rfl H ?_
    first | refine .tj 5 rfl rfl rfl H (fun w H => Ev.ld H) ?_ | refine .tq 5 rfl rfl H ?_
    first | refine .tj 6 rfl rfl rfl H (fun w H => Ev.geq rfl rfl) ?_ | refine .tq 6 rfl rfl H ?_
    refine .tk 7 rfl H (fun w H => (by first | exact Ev.pickT rfl rfl | exact Ev.pickF rfl rfl)) ?_
    refine .tk 8 rfl H (fun w H => Ev.move rfl) ?_
    first | refine .tj 9 rfl rfl rfl H (fun w H => Ev.fieldAddr (o := 1) rfl (by kernel_rfl)) ?_ | refine .tq 9 rfl rfl H ?_
    first | refine .tj 10 rfl rfl rfl H (fun w H => Ev.ld H) ?_ | refine .tq 10 rfl rfl H ?_
    first | refine .tj 11 rfl rfl rfl H (fun w H => Ev.leq rfl rfl) ?_ | refine .tq 11 rfl rfl H ?_
    refine .tk 12 rfl H (fun w H => (by first | exact Ev.pickT rfl rfl | exact Ev.pickF rfl rfl)) ?_
    refine .tk 13 rfl H (fun w H => Ev.move rfl) ?_
    first | refine .tj 14 rfl rfl rfl H (fun w H => Ev.fieldAddr (o := 0) rfl (by kernel_rfl)) ?_ | refine .tq 14 rfl rfl H ?_
    first | refine .tj 15 rfl rfl rfl H (fun w H => Ev.ld H) ?_ | refine .tq 15 rfl rfl H ?_
    first | refine .tj 16 rfl rfl rfl H (fun w H => Ev.move rfl) ?_ | refine .tq 16 rfl rfl H ?_
    first | (refine OpsD.one 17 (by kernel_rfl) (StepD.exYes rfl rfl rfl (Ex.call rfl Tryz.call193 (pages_spec st p A w _ hA H.headL)) rfl ?_); (try clear H); rintro _ w ⟨rfl, H⟩; replace H := H.unmid; refine ⟨(by first | exact H | exact H.drop | exact H.drop.drop | exact H.dropL | exact H.drop.dropL | exact H.dropL.drop | exact H.dropL.dropL | exact H.dropMid | exact H.dropL.dropL.dropL | exact H.dropL.dropL.dropL.dropL), ?_⟩) | refine .tq 17 rfl rfl H ?_
    first | refine .tj 18 rfl rfl rfl (by first | exact H | exact H.drop | exact H.drop.drop | exact H.dropL | exact H.drop.dropL | exact H.dropL.drop | exact H.dropL.dropL | exact H.dropMid | exact H.dropL.dropL.dropL | exact H.dropL.dropL.dropL.dropL) (fun w H => Ev.leq rfl rfl) ?_ | refine .tq 18 rfl rfl (by first | exact H | exact H.drop | exact H.drop.drop | exact H.dropL | exact H.drop.dropL | exact H.dropL.drop | exact H.dropL.dropL | exact H.dropMid | exact H.dropL.dropL.dropL | exact H.dropL.dropL.dropL.dropL) ?_
    refine .tk 19 rfl (by first | exact H | exact H.drop | exact H.drop.drop | exact H.dropL | exact H.drop.dropL | exact H.dropL.drop | exact H.dropL.dropL | exact H.dropMid | exact H.dropL.dropL.dropL | exact H.dropL.dropL.dropL.dropL) (fun w H => (by first | exact Ev.pickT rfl rfl | exact Ev.pickF rfl rfl)) ?_
    refine .tk 20 rfl (by first | exact H | exact H.drop | exact H.drop.drop | exact H.dropL | exact H.drop.dropL | exact H.dropL.drop | exact H.dropL.dropL | exact H.dropMid | exact H.dropL.dropL.dropL | exact H.dropL.dropL.dropL.dropL) (fun w H => Ev.move rfl) ?_
    first | refine .tj 21 rfl rfl rfl (by first | exact H | exact H.drop | exact H.drop.drop | exact H.dropL | exact H.drop.dropL | exact H.dropL.drop | exact H.dropL.dropL | exact H.dropMid | exact H.dropL.dropL.dropL | exact H.dropL.dropL.dropL.dropL) (fun w H => Ev.fieldAddr (o := 1) rfl (by kernel_rfl)) ?_ | refine .tq 21 rfl rfl (by first | exact H | exact H.drop | exact H.drop.drop | exact H.dropL | exact H.drop.dropL | exact H.dropL.drop | exact H.dropL.dropL | exact H.dropMid | exact H.dropL.dropL.dropL | exact H.dropL.dropL.dropL.dropL) ?_
    first | refine .tj 22 rfl rfl rfl (by first | exact H | exact H.drop | exact H.drop.drop | exact H.dropL | exact H.drop.dropL | exact H.dropL.drop | exact H.dropL.dropL | exact H.dropMid | exact H.dropL.dropL.dropL | exact H.dropL.dropL.dropL.dropL) (fun w H => Ev.ld H) ?_ | refine .tq 22 rfl rfl (by first | exact H | exact H.drop | exact H.drop.drop | exact H.dropL | exact H.drop.dropL | exact H.dropL.drop | exact H.dropL.dropL | exact H.dropMid | exact H.dropL.dropL.dropL | exact H.dropL.dropL.dropL.dropL) ?_
    first | refine .tj 23 rfl rfl rfl (by first | exact H | exact H.drop | exact H.drop.drop | exact H.dropL | exact H.drop.dropL | exact H.dropL.drop | exact H.dropL.dropL | exact H.dropMid | exact H.dropL.dropL.dropL | exact H.dropL.dropL.dropL.dropL) (fun w H => Ev.move rfl) ?_ | refine .tq 23 rfl rfl (by first | exact H | exact H.drop | exact H.drop.drop | exact H.dropL | exact H.drop.dropL | exact H.dropL.drop | exact H.dropL.dropL | exact H.dropMid | exact H.dropL.dropL.dropL | exact H.dropL.dropL.dropL.dropL) ?_
    first | refine .tj 25 rfl rfl rfl (by first | exact H | exact H.drop | exact H.drop.drop | exact H.dropL | exact H.drop.dropL | exact H.dropL.drop | exact H.dropL.dropL | exact H.dropMid | exact H.dropL.dropL.dropL | exact H.dropL.dropL.dropL.dropL) (fun w H => Ev.fieldAddr (o := 0) rfl (by kernel_rfl)) ?_ | refine .tq 25 rfl rfl (by first | exact H | exact H.drop | exact H.drop.drop | exact H.dropL | exact H.drop.dropL | exact H.dropL.drop | exact H.dropL.dropL | exact H.dropMid | exact H.dropL.dropL.dropL | exact H.dropL.dropL.dropL.dropL) ?_
    first | refine .tj 26 rfl rfl rfl (by first | exact H | exact H.drop | exact H.drop.drop | exact H.dropL | exact H.drop.dropL | exact H.dropL.drop | exact H.dropL.dropL | exact H.dropMid | exact H.dropL.dropL.dropL | exact H.dropL.dropL.dropL.dropL) (fun w H => Ev.ld H) ?_ | refine .tq 26 rfl rfl (by first | exact H | exact H.drop | exact H.drop.drop | exact H.dropL | exact H.drop.dropL | exact H.dropL.drop | exact H.dropL.dropL | exact H.dropMid | exact H.dropL.dropL.dropL | exact H.dropL.dropL.dropL.dropL) ?_
    first | (refine OpsD.one 24 (by kernel_rfl) (StepD.exYes rfl rfl rfl (Ex.call rfl Tryz.call193 (pages_spec st p A w _ hA H.headL)) rfl ?_); (try clear H); rintro _ w ⟨rfl, H⟩; replace H := H.unmid; refine ⟨(by first | exact H | exact H.drop | exact H.drop.drop | exact H.dropL | exact H.drop.dropL | exact H.dropL.drop | exact H.dropL.dropL | exact H.dropMid | exact H.dropL.dropL.dropL | exact H.dropL.dropL.dropL.dropL), ?_⟩) | refine .tq 24 rfl rfl (by first | exact H | exact H.drop | exact H.drop.drop | exact H.dropL | exact H.drop.dropL | exact H.dropL.drop | exact H.dropL.dropL | exact H.dropMid | exact H.dropL.dropL.dropL | exact H.dropL.dropL.dropL.dropL) ?_
    first | refine .tj 27 rfl rfl rfl (by first | exact H | exact H.drop | exact H.drop.drop | exact H.dropL | exact H.drop.dropL | exact H.dropL.drop | exact H.dropL.dropL | exact H.dropMid | exact H.dropL.dropL.dropL | exact H.dropL.dropL.dropL.dropL) (fun w H => Ev.sub rfl rfl) ?_ | refine .tq 27 rfl rfl (by first | exact H | exact H.drop | exact H.drop.drop | exact H.dropL | exact H.drop.dropL | exact H.dropL.drop | exact H.dropL.dropL | exact H.dropMid | exact H.dropL.dropL.dropL | exact H.dropL.dropL.dropL.dropL) ?_
    first | refine .tj 28 rfl rfl rfl (by first | exact H | exact H.drop | exact H.drop.drop | exact H.dropL | exact H.drop.dropL | exact H.dropL.drop | exact H.dropL.dropL | exact H.dropMid | exact H.dropL.dropL.dropL | exact H.dropL.dropL.dropL.dropL) (fun w H => Ev.leq rfl rfl) ?_ | refine .tq 28 rfl rfl (by first | exact H | exact H.drop | exact H.drop.drop | exact H.dropL | exact H.drop.dropL | exact H.dropL.drop | exact H.dropL.dropL | exact H.dropMid | exact H.dropL.dropL.dropL | exact H.dropL.dropL.dropL.dropL) ?_
    refine .tk 29 rfl (by first | exact H | exact H.drop | exact H.drop.drop | exact H.dropL | exact H.drop.dropL | exact H.dropL.drop | exact H.dropL.dropL | exact H.dropMid | exact H.dropL.dropL.dropL | exact H.dropL.dropL.dropL.dropL) (fun w H => (by first | exact Ev.pickT rfl rfl | exact Ev.pickF rfl rfl)) ?_
    refine .tk 30 rfl (by first | exact H | exact H.drop | exact H.drop.drop | exact H.dropL | exact H.drop.dropL | exact H.dropL.drop | exact H.dropL.dropL | exact H.dropMid | exact H.dropL.dropL.dropL | exact H.dropL.dropL.dropL.dropL) (fun w H => Ev.assign rfl) ?_
    refine OpsD.done (by kernel_rfl) ?_
    refine .st ?_
    exact RunsE.ret1 Tryz.func251 rfl rfl ⟨by rw [decide_eq_false fun h => h1 h.1], H.drop⟩

theorem or_spec [Strm] (s : Nat) (w : World) (F : List (Nat × Obj)) (H : SL w F) : Does Tryz.prog 253 #[.pointer (some ⟨s, 0, none⟩), .nilIface] w fun r w' => r = .tuple #[.pointer (some ⟨s, 0, none⟩), .nilIface] ∧ SL w' F := by
  refine Does.intro (args := [_, _]) (e := [(0, _), (1, _)]) Tryz.func253 rfl Tryz.ntmps253 rfl rfl ?_
  refine .st ?_
  refine .st ?_
  refine RunsE.region ?_
  refine .au2 ?_
  refine .nil ?_
  refine .st ?_
  refine RunsE.region ?_
  refine .au1 ?_
  refine .ev (Ev.errNe (n := 0) rfl rfl) rfl ?_
  refine .nil ?_
  refine .st ?_
  refine .st ?_
  refine RunsE.region ?_
  refine .au3 ?_
  refine .nil ?_
  refine .st ?_
  exact RunsE.ret2 Tryz.func253 rfl rfl rfl ⟨rfl, H⟩

set_option maxHeartbeats 2000000 in
theorem sread_spec [Strm] (s p fr count m dead : Nat) (o : Obj) (st : St) (l : List Lf) (place : Nat) (A : List (Nat × Obj)) (hd : st.down = false) (hpl : fr + place < st.P.length) (hQl : st.Q.length ≤ 1000000) (w : World) (X : List (Nat × Obj)) (hs : (s, shO p fr count m dead) ∈ X) (ho : Mp o (kvL l)) (hA : HoldS p st A) (H : SL w (A ++ ((m, o) :: X))) :
    Does Tryz.prog 254 #[.pointer (some ⟨s, 0, none⟩), .int .i64 (place : Int)] w fun r w' =>
      if doneM (bytesM 4096 (bytesM 4096 (st.page (fr + place), 0)).1).1 ≠ 0 ∨ (findL l (bytesM 4096 (st.page (fr + place), 0)).2).isSome = true then r = EV 14 ∧ SL w' (A ++ ((m, o) :: X))
      else ∃ o', r = .nilIface ∧ Mp o' (kvL (insK Lf.key l ⟨(bytesM 4096 (st.page (fr + place), 0)).2, (bytesM 4096 (bytesM 4096 (st.page (fr + place), 0)).1).2, place⟩)) ∧ SL w' (A ++ ((m, o') :: X)) := by
  have hok := hA.ok
  have hP := hok.pages
  have hsz := page_sz hok (fr + place)
  have hrd : st.read ((fr + place : Nat) : Int) = (st.page (fr + place), 0) := by
    rw [read_up (by unfold St.has; simp; omega) hd, Int.toNat_natCast]
  obtain ⟨line, hline⟩ : ∃ line, line = st.page (fr + place) := ⟨_, rfl⟩
  rw [← hline] at hrd hsz ⊢
  have hs' : ∀ {Q : List (Nat × Obj)}, (s, shO p fr count m dead) ∈ Q ++ ((m, o) :: X) := List.mem_append_right _ (.tail _ hs)
  refine Does.intro (args := [_, _]) (e := [(0, _), (1, _)]) Tryz.func254 rfl Tryz.ntmps254 rfl rfl ?_
  refine .st ?_
  refine .st ?_
  refine RunsE.region ?_
  refine .au1 ?_
  refine .nil ?_
  refine .st ?_
  refine RunsE.drawS H [11] (by kernel_rfl) ?_; (try clear H); intro w H
  refine .tk 0 rfl H (fun w H => Ev.move rfl) ?_
  refine .tk 1 rfl H (fun w H => Ev.nilCheck rfl) ?_
  refine .tk 2 rfl H (fun w H => Ev.fieldAddr (o := 0) rfl (by kernel_rfl)) ?_
  refine .tk 3 rfl H (fun w H => Ev.load H rfl (by kernel_rfl) (Rd.mk hs' rfl)) ?_
  refine .tk 4 rfl H (fun w H => Ev.move rfl) ?_
  refine .tk 5 rfl H (fun w H => Ev.nilCheck rfl) ?_
  refine .tk 6 rfl H (fun w H => Ev.fieldAddr (o := 1) rfl (by kernel_rfl)) ?_
  refine .tk 7 rfl H (fun w H => Ev.fieldAddr (o := 0) rfl (by kernel_rfl)) ?_
  refine .tk 8 rfl H (fun w H => Ev.load H rfl (by kernel_rfl) (Rd.mk hs' rfl)) ?_
  refine .tk 9 rfl H (fun w H => Ev.move rfl) ?_
  refine .tk 10 rfl H (fun w H => Ev.add (c := ((fr + place : Nat) : Int)) rfl rfl (by rw [qi64 (by omega) (by omega)]; omega)) ?_
  refine OpsD.one 11 (by kernel_rfl) (StepD.exT rfl rfl (Ex.call rfl Tryz.call252 (read_spec st ((fr + place : Nat) : Int) p A hQl w _ hA H)) rfl ?_); (try clear H); rintro _ w ⟨vb, Bb, rfl, hsb, H⟩; rw [hrd] at hsb
  refine .tu 12 rfl (fun w => Ev.move rfl) ?_
  refine .tu 13 rfl (fun w => Ev.extract rfl rfl) ?_
  refine .tu 14 rfl (fun w => Ev.extract rfl rfl) ?_
  refine .tu 15 rfl (fun w => Ev.assign rfl) ?_
  refine .tu 16 rfl (fun w => Ev.assign rfl) ?_
  refine OpsD.done (by kernel_rfl) ?_
  rw [hrd]
  refine .st ?_
  refine RunsE.region ?_
  refine .au1 ?_
  refine .ev (Ev.errNe (n := 0) rfl rfl) rfl ?_
  refine .nil ?_
  refine .st ?_
  obtain ⟨ab, cb, rfl, hcb⟩ := hsb.leCap
  refine .st ?_
  refine RunsE.region ?_
  refine .au1 ?_
  refine .ex (Ex.call rfl Tryz.call76 (rread_spec _ w _ H ⟨_, _, _, rfl⟩)) rfl ?_; (try clear H); rintro _ w ⟨br, rfl, H⟩
  refine .au1 ?_
  refine .nil ?_
  obtain ⟨Z, hZ⟩ : ∃ Z, Z = Bb ++ (A ++ ((m, o) :: X)) := ⟨_, rfl⟩
  rw [← hZ] at H
  have hin : Inp Z (.slice ab line.length cb) line := by rw [hZ]; exact hsb.inp
  obtain ⟨K, hK⟩ : ∃ K, K = bytesM 4096 (line, 0) := ⟨_, rfl⟩
  obtain ⟨V, hV⟩ : ∃ V, V = bytesM 4096 K.1 := ⟨_, rfl⟩
  rw [← hK, ← hV]
  repeat refine RunsE.seq ?_
  refine RunsE.join (fun _ : Unit => [(0, .pointer (some ⟨s, 0, none⟩)), (1, .int .i64 (place : Int)), (7, .pointer (some ⟨br, 0, none⟩)), (8, sV K.2), (9, sV V.2)])
    (fun _ w => ∃ k, k ≤ line.length ∧ line.drop k = V.1.1 ∧ SL w ((br, rdO (.slice ab line.length cb) k V.1.2) :: Z)) (fun next => ?_) ?_
  ·
    refine .st ?_
    refine RunsE.drawS H [1, 2, 4, 5] (by kernel_rfl) ?_; (try clear H); intro w H
    refine .tk 0 rfl H (fun w H => Ev.move rfl) ?_
    refine .tu 3 rfl (fun w => Ev.move rfl) ?_
    refine OpsD.one 1 (by kernel_rfl) (StepD.exT rfl rfl (Ex.call rfl Tryz.call178 (rbytes_spec br _ line 0 0 4096 (by decide) (by omega) (by omega) w Z hin H)) rfl ?_); (try clear H); rintro v1 w ⟨k1, B1, hk1, hd1, hs1, H⟩; rw [List.drop_zero, ← hK] at hd1 hs1 H; replace H := H.unmid
    refine OpsD.two 2 4 (by kernel_rfl) (StepD.exT rfl rfl (Ev.ex (Ev.inpStr (bs := K.2) (el := 5) H rfl (Inp.sub hs1.inp (L := B1 ++ []) fun q hq => by simp only [List.append_nil] at hq; first | exact .tail _ (List.mem_append_left _ hq) | exact List.mem_append_right _ (.tail _ (List.mem_append_left _ hq))) Tryz.underlying66 Tryz.underlying5 Tryz.underlying9)) rfl ?_) (StepD.exT rfl rfl (Ex.call rfl Tryz.call178 (rbytes_spec br _ line k1 K.1.2 4096 (by decide) hk1 (by omega) w (B1 ++ Z) hin.right H)) rfl ?_)
    · rintro _ _ ⟨rfl, rfl⟩
      refine OpsD.one 4 (by kernel_rfl) (StepD.exT rfl rfl (Ex.call rfl Tryz.call178 (rbytes_spec br _ line k1 K.1.2 4096 (by decide) hk1 (by omega) w (B1 ++ Z) hin.right H)) rfl ?_); (try clear H); rintro v2 w ⟨k2, B2, hk2, hd2, hs2, H⟩; rw [hd1, show (K.1.1, K.1.2) = K.1 from rfl, ← hV] at hd2 hs2 H
      refine .tu 6 rfl (fun w => Ev.assign rfl) ?_
      refine OpsD.one 5 (by kernel_rfl) (StepD.exT rfl rfl (Ev.ex (Ev.inpStr (bs := V.2) (el := 5) H rfl hs2.inp Tryz.underlying66 Tryz.underlying5 Tryz.underlying9)) rfl ?_); rintro _ _ ⟨rfl, rfl⟩
      refine .tu 7 rfl (fun w => Ev.assign rfl) ?_
      refine OpsD.done (by kernel_rfl) ?_
      exact next () _ _ ⟨k2, hk2, hd2, H.less (B1 ++ B2) (perm_of fun a => by simp only [List.count_append, List.count_cons]; omega)⟩ ⟨rfl, rfl, rfl, rfl, rfl, trivial⟩
    · (try clear H); rintro v2 w ⟨k2, B2, hk2, hd2, hs2, H⟩; rw [hd1, show (K.1.1, K.1.2) = K.1 from rfl, ← hV] at hd2 hs2 H
      refine OpsD.two 2 5 (by kernel_rfl) (StepD.exT rfl rfl (Ev.ex (Ev.inpStr (bs := K.2) (el := 5) H rfl (Inp.sub hs1.inp (L := B1 ++ []) fun q hq => by simp only [List.append_nil] at hq; first | exact .tail _ (List.mem_append_left _ hq) | exact List.mem_append_right _ (.tail _ (List.mem_append_left _ hq))) Tryz.underlying66 Tryz.underlying5 Tryz.underlying9)) rfl ?_) (StepD.exT rfl rfl (Ev.ex (Ev.inpStr (bs := V.2) (el := 5) H rfl hs2.inp Tryz.underlying66 Tryz.underlying5 Tryz.underlying9)) rfl ?_)
      · rintro _ _ ⟨rfl, rfl⟩
        refine .tu 6 rfl (fun w => Ev.assign rfl) ?_
        refine OpsD.one 5 (by kernel_rfl) (StepD.exT rfl rfl (Ev.ex (Ev.inpStr (bs := V.2) (el := 5) H rfl hs2.inp Tryz.underlying66 Tryz.underlying5 Tryz.underlying9)) rfl ?_); rintro _ _ ⟨rfl, rfl⟩
        refine .tu 7 rfl (fun w => Ev.assign rfl) ?_
        refine OpsD.done (by kernel_rfl) ?_
        exact next () _ _ ⟨k2, hk2, hd2, H.less (B1 ++ B2) (perm_of fun a => by simp only [List.count_append, List.count_cons]; omega)⟩ ⟨rfl, rfl, rfl, rfl, rfl, trivial⟩
      · rintro _ _ ⟨rfl, rfl⟩
        refine OpsD.one 2 (by kernel_rfl) (StepD.exT rfl rfl (Ev.ex (Ev.inpStr (bs := K.2) (el := 5) H rfl (Inp.sub hs1.inp (L := B1 ++ []) fun q hq => by simp only [List.append_nil] at hq; first | exact .tail _ (List.mem_append_left _ hq) | exact List.mem_append_right _ (.tail _ (List.mem_append_left _ hq))) Tryz.underlying66 Tryz.underlying5 Tryz.underlying9)) rfl ?_); rintro _ _ ⟨rfl, rfl⟩
        refine .tu 6 rfl (fun w => Ev.assign rfl) ?_
        refine .tu 7 rfl (fun w => Ev.assign rfl) ?_
        refine OpsD.done (by kernel_rfl) ?_
        exact next () _ _ ⟨k2, hk2, hd2, H.less (B1 ++ B2) (perm_of fun a => by simp only [List.count_append, List.count_cons]; omega)⟩ ⟨rfl, rfl, rfl, rfl, rfl, trivial⟩
  clear H
  rintro _ w ⟨k, hk, hdk, H⟩
  have hsZ : (s, shO p fr count m dead) ∈ Z := by rw [hZ]; exact List.mem_append_right _ hs'
  have hmZ : (m, o) ∈ Z := by rw [hZ]; exact List.mem_append_right _ (List.mem_append_right _ (.head _))
  refine .st ?_
  refine RunsE.region ?_
  refine .au1 ?_
  refine .ev (Ev.nilCheck rfl) rfl ?_
  refine .ev (Ev.fieldAddr (o := 3) rfl (by kernel_rfl)) rfl ?_
  refine .ev (Ev.load H rfl (by kernel_rfl) (Rd.mk (.tail _ hsZ) rfl)) rfl ?_
  refine .au1 ?_
  refine .ev (Ev.lookLf H rfl rfl (.tail _ hmZ) ho (.refl _)) rfl ?_
  refine .au3 ?_
  refine .ex (Ex.alloc (zv := .agg #[.int .i64 0, .string .empty]) H (by kernel_rfl)) rfl ?_; (try clear H); rintro _ w ⟨b10, rfl, H⟩; simp only [Value.cells] at H
  refine .exn (Ex.storeBlk (n := 2) H rfl rfl (by kernel_rfl) (by first | rfl | simp) (by simp [Value.oneCell']) u0 (by first | rfl | simp) (Thaw.zero _ _)) ?_; (try clear H); intro _ w H
  refine .au1 ?_
  refine .nil ?_
  have hdone : doneM (line.drop k, V.1.2) = doneM V.1 := by rw [hdk]
  cases hf : (findL l K.2).isSome with
  | true =>
    refine .st ?_
    refine RunsE.region ?_
    refine .au3 ?_
    first | (refine .yes rfl rfl ?_; refine .ex (Ex.call rfl Tryz.call81 (?spec)) rfl ?_; (try clear H); rintro _ w ⟨rfl, H⟩) | refine .nf ?_
    first | refine .ye ((?op_binOp)) ?_ | refine .nf ?_
    refine .au1 ?_
    refine .nil ?_
    refine .st ?_
    refine .st ?_
    refine RunsE.region ?_
    refine .ev (Ev.makeInterface (d := (.int .i64)) rfl (by kernel_rfl) rfl) rfl ?_
    refine .au1 ?_
    refine .nil ?_
    refine .st ?_
    rw [hZ] at H
    refine RunsE.ret1 Tryz.func254 rfl rfl ?_
    rw [if_pos (.inr rfl)]
    exact ⟨rfl, H.drop.drop.dropL⟩
  | false =>
    by_cases hdn : doneM V.1 = 0
    · replace H := H.drop
      refine .st ?_
      refine RunsE.region ?_
      refine .au3 ?_
      first | (refine .yes rfl rfl ?_; refine .ex (Ex.call rfl Tryz.call81 (rdone_spec br _ line k V.1.2 hk (by omega) w Z hin H)) rfl ?_; (try clear H); rintro _ w ⟨rfl, H⟩; rw [hdone, hdn]) | refine .nf ?_
      first | refine .ye (Ev.errNe (n := 0) rfl rfl) ?_ | refine .nf ?_
      refine .au1 ?_
      refine .nil ?_
      refine .st ?_
      rw [hZ] at H
      replace H : SL w ((m, o) :: (A ++ X)) := H.less ((br, rdO (.slice ab line.length cb) k V.1.2) :: Bb) (perm_of fun a => by simp only [List.count_append, List.count_cons]; omega)
      refine .st ?_
      refine RunsE.region ?_
      refine .au1 ?_
      refine .ev (Ev.nilCheck rfl) rfl ?_
      refine .ev (Ev.fieldAddr (o := 3) rfl (by kernel_rfl)) rfl ?_
      refine .ev (Ev.load H rfl (by kernel_rfl) (Rd.mk (.tail _ (List.mem_append_right _ hs)) rfl)) rfl ?_
      refine .au3 ?_
      refine .ev (Ev.buildSt (pl := [(0, 1), (1, 1)]) (zv := .agg #[.int .i64 0, .string .empty]) rfl (by kernel_rfl) (by kernel_rfl) rfl) rfl ?_
      refine .exn (Ex.mapUpdateS (M := fun o => (m, o) :: (A ++ X)) (u := leafV ⟨K.2, V.2, place⟩) H mapLf rfl rfl rfl (fun o' => .head) ho) ?_; (try clear H); rintro _ w ⟨o', ho', H⟩
      refine .nil ?_
      refine .st ?_
      refine RunsE.region ?_
      refine .au1 ?_
      refine .nil ?_
      refine .st ?_
      refine RunsE.ret1 Tryz.func254 rfl rfl ?_
      rw [if_neg (by rintro (h | h) <;> first | exact h rfl | exact h hdn | cases h)]
      refine ⟨o', rfl, ho'.perm ?_, H.perm (perm_of fun a => by simp only [List.count_append, List.count_cons]; omega)⟩
      have hnone : ∀ y ∈ l, y.key ≠ K.2 := fun y hy he => by
        have h1 : findL l K.2 = none := by simpa using hf
        unfold findL at h1
        rw [List.find?_eq_none] at h1
        exact h1 y hy (decide_eq_true he)
      unfold putK
      rw [List.filter_eq_self.2 (fun q hq => by
        obtain ⟨y, hy, rfl⟩ := List.mem_map.1 hq
        exact decide_eq_true (hnone y hy))]
      exact ((insK_perm Lf.key l ⟨K.2, V.2, place⟩).symm.map fun y : Lf => (y.key, leafV y))
    · replace H := H.drop
      refine .st ?_
      refine RunsE.region ?_
      refine .au3 ?_
      first | (refine .yes rfl rfl ?_; refine .ex (Ex.call rfl Tryz.call81 (rdone_spec br _ line k V.1.2 hk (by omega) w Z hin H)) rfl ?_; (try clear H); rintro _ w ⟨rfl, H⟩; rw [hdone]) | refine .nf ?_
      first | refine .ye (Ev.errNe (r := true) rfl (decide_eq_true hdn)) ?_ | refine .nf ?_
      refine .au1 ?_
      refine .nil ?_
      refine .st ?_
      refine .st ?_
      refine RunsE.region ?_
      refine .ev (Ev.makeInterface (d := (.int .i64)) rfl (by kernel_rfl) rfl) rfl ?_
      refine .au1 ?_
      refine .nil ?_
      refine .st ?_
      rw [hZ] at H
      refine RunsE.ret1 Tryz.func254 rfl rfl ?_
      rw [if_pos (.inl hdn)]
      exact ⟨rfl, H.drop.dropL⟩

end Go.Proofs.YtdppnaahdilkcaaGreatDoor
end

section
/-
  Layer 10: what a set of changes leaves in the pages. Plain.
-/
namespace Go.Proofs.YtdppnaahdilkcaaGreatDoor.V

theorem page_noQ {st : St} (h : st.Q = []) (p : Nat) : st.page p = st.P.getD p [] := by
  unfold St.page
  rw [h]
  rfl

theorem opened {st : St} {fr count : Nat} {l : List Lf} (hQ : st.Q = []) (hL : LaidS st.P fr count l) (hok : OkL l count) (hc : count ≤ 256) : openM count (fun i => st.page (fr + i)) = some l := by
  refine open_laid hok hc ?_ ?_
  · show st.page (fr + 0) = _ ∨ _ ∧ st.page (fr + 0) = _
    rw [page_noQ hQ, Nat.add_zero]
    exact hL.root
  · intro y hy
    rw [page_noQ hQ]
    exact hL.leaf y hy

/-- What Set does where the store is up, and nothing loose. -/
theorem set_effect {st : St} {fr count : Nat} {l : List Lf} (cs : List Ch) (hd : st.down = false) (hQ : st.Q = []) (hL : LaidS st.P fr count l) (hok : OkL l count) (hc : count ≤ 2000) (hc1 : 1 ≤ count) :
    ((setP st fr count l 0 cs).2.2.2 = (setM l count cs).2.2.2 ∧ (setP st fr count l 0 cs).2.1 = (setM l count cs).1 ∧ (setP st fr count l 0 cs).2.2.1 = 0 ∧ (setP st fr count l 0 cs).1.down = false ∧ (setP st fr count l 0 cs).1.Q = [] ∧
      (setP st fr count l 0 cs).1.P.length = st.P.length ∧ LaidS (setP st fr count l 0 cs).1.P fr count (setM l count cs).1 ∧ (st.armed = false → (setP st fr count l 0 cs).1.armed = false) ∧
      ((setM l count cs).2.2.1 = true → (setP st fr count l 0 cs).1.P.getD fr [] = rootM (setM l count cs).1 count) ∧ (∀ p, p < fr ∨ fr + count ≤ p → (setP st fr count l 0 cs).1.P.getD p [] = st.P.getD p [])) ∨
    ((setP st fr count l 0 cs).2.2.2 = 13 ∧ (setP st fr count l 0 cs).2.1 = l ∧ (setP st fr count l 0 cs).2.2.1 = 13 ∧ (setP st fr count l 0 cs).1.down = true ∧ st.armed = true ∧
      ∀ kept, LaidS ((setP st fr count l 0 cs).1.start kept).P fr count l ∨ LaidS ((setP st fr count l 0 cs).1.start kept).P fr count (setM l count cs).1) := by
  have hfl := free_len hok
  have hP : setP st fr count l 0 cs = setP st fr count l 0 cs := rfl
  conv at hP => rhs; unfold setP
  rw [if_neg (by simp)] at hP
  have hset : setM l count cs = setM l count cs := rfl
  conv at hset => rhs; unfold setM
  generalize setP st fr count l 0 cs = R at *
  by_cases h1 : ((changesM l cs).filter fun x => !x.gone).any (fun x => decide (4096 < (pageM x.key x.val).length)) = true
  · rw [if_pos h1] at hset
    rw [hset] at hP ⊢
    rw [if_pos (by simp)] at hP
    subst hP
    exact .inl ⟨rfl, rfl, rfl, hd, hQ, rfl, hL, fun h => h, fun h => (by cases h), fun _ _ => rfl⟩
  rw [if_neg h1] at hset
  by_cases h2 : count - 1 - l.length < ((changesM l cs).filter fun x => !x.gone).length
  · rw [if_pos h2] at hset
    rw [hset] at hP ⊢
    rw [if_pos (by simp)] at hP
    subst hP
    exact .inl ⟨rfl, rfl, rfl, hd, hQ, rfl, hL, fun h => h, fun h => (by cases h), fun _ _ => rfl⟩
  rw [if_neg h2] at hset
  rw [hset] at hP ⊢
  rw [if_neg (by simp)] at hP
  by_cases h3 : changesM l cs = []
  · rw [if_pos h3] at hP
    subst hP
    have e1 : applyM l (changesM l cs) (freeM l count) = l := by rw [h3]; unfold applyM; rfl
    rw [e1]
    exact .inl ⟨rfl, rfl, rfl, hd, hQ, rfl, hL, fun h => h, fun h => (by rw [h3] at h; simp at h), fun _ _ => rfl⟩
  rw [if_neg h3] at hP
  have hn := SrtC.nodup (changes_sorted l cs)
  have hfit : ∀ x ∈ changesM l cs, x.gone = false → (pageM x.key x.val).length ≤ 4096 := by
    intro x hx hg
    rw [Bool.not_eq_true, List.any_eq_false] at h1
    have := h1 x (List.mem_filter.2 ⟨hx, by rw [hg]; rfl⟩)
    simp at this
    exact this
  rcases lay_effect (ch := changesM l cs) hd hQ hL hok hn (by omega) hfit hc hc1 with ⟨a1, a2, a3, a4, a5, a6, a7, a8⟩ | ⟨a1, a2, a3, a4⟩
  · rw [if_pos a1, a1] at hP
    subst hP
    refine .inl ⟨rfl, rfl, rfl, a2, a3, a4, a6, a5, fun _ => a7, a8⟩
  · rw [if_neg (by rw [a1]; decide), a1] at hP
    subst hP
    exact .inr ⟨rfl, rfl, rfl, a2, a3, a4⟩

theorem Slc.chAt {L B : List (Nat × Obj)} {T : TypeId} {v : Value} {cs : List Ch} (h : Slc gC 3 T v cs B) : ElsA 3 (ChAt (B ++ L)) v cs := by
  cases h with
  | nil => exact .nil
  | blk b xs cap sp fr h1 h2 h3 =>
    refine .blk b 0 cap cs h2 fun i x hi j u hj => ?_
    have := (Slc.blk b cs cap sp fr h1 h2 h3 : Slc gC 3 T _ cs _).rdEl (L := L) (fun _ => rfl) hi j u hj
    rw [Nat.zero_add]
    exact this

theorem find_mem {l : List Lf} (h : SrtL l) {y : Lf} (hy : y ∈ l) : findL l y.key = some y := by
  have h2 := atK_kvL l y.key
  have h3 : atK (kvL l) y.key = some (leafV y) := (atK_mem (by rw [kvL_keys]; exact h.nodup)).2 (List.mem_map_of_mem (f := fun y : Lf => (y.key, leafV y)) hy)
  rw [h3] at h2
  cases hf : findL l y.key with
  | none => rw [hf] at h2; cases h2
  | some z =>
    have hz := List.find?_some hf
    simp only [decide_eq_true_eq] at hz
    rw [hf] at h2
    simp only [Option.map_some, Option.some.injEq] at h2
    rw [kv_inj (y := y) (z := z) (by rw [hz, h2])]

/-- A leaf's key and value. -/
abbrev kvp (y : Lf) : List UInt8 × List UInt8 := (y.key, y.val)

/-- Set, where nothing is armed. -/
theorem set_up {st : St} {fr count : Nat} {l : List Lf} (cs : List Ch) (hd : st.down = false) (hQ : st.Q = []) (har : st.armed = false) (hL : LaidS st.P fr count l) (hok : OkL l count) (hc : count ≤ 2000) (hc1 : 1 ≤ count) :
    (setP st fr count l 0 cs).2.2.2 = (setM l count cs).2.2.2 ∧ (setP st fr count l 0 cs).2.1 = (setM l count cs).1 ∧ (setP st fr count l 0 cs).2.2.1 = 0 ∧ (setP st fr count l 0 cs).1.down = false ∧ (setP st fr count l 0 cs).1.Q = [] ∧
      (setP st fr count l 0 cs).1.P.length = st.P.length ∧ LaidS (setP st fr count l 0 cs).1.P fr count (setM l count cs).1 ∧ (setP st fr count l 0 cs).1.armed = false ∧
      ((setM l count cs).2.2.1 = true → (setP st fr count l 0 cs).1.P.getD fr [] = rootM (setM l count cs).1 count) ∧ (∀ p, p < fr ∨ fr + count ≤ p → (setP st fr count l 0 cs).1.P.getD p [] = st.P.getD p []) := by
  rcases set_effect cs hd hQ hL hok hc hc1 with ⟨a1, a2, a3, a4, a5, a6, a7, a8, a9, a10⟩ | ⟨_, _, _, _, a5, _⟩
  · exact ⟨a1, a2, a3, a4, a5, a6, a7, a8 har, a9, a10⟩
  · rw [har] at a5; cases a5

/-- A new store's pages hold no leaf. -/
theorem laid_new {n fr count : Nat} (h : fr + count ≤ n) : LaidS (St.new n).P fr count [] := by
  refine ⟨by simpa [St.new] using h, .inr ⟨rfl, ?_⟩, fun y hy => by cases hy⟩
  simp only [St.new, List.getD_eq_getElem?_getD, List.getElem?_replicate]
  split <;> rfl


end Go.Proofs.YtdppnaahdilkcaaGreatDoor.V
end

section
/-
  The shelf, walked: Open.
-/
namespace Go.Proofs.YtdppnaahdilkcaaGreatDoor
open Go.Proofs.YtdppnaahdilkcaaGreatDoor.V

theorem openBad_spec [Strm] (p : Nat) (fr count : Int) (b1 : -9223372036854775808 ≤ fr) (b2 : fr ≤ 9223372036854775807) (st : St) (A : List (Nat × Obj)) (w : World) (X : List (Nat × Obj)) (hbad : ¬ (0 ≤ fr ∧ 2 ≤ count ∧ count ≤ 1024 ∧ fr ≤ st.P.length ∧ count ≤ st.P.length - fr)) (hA : HoldS p st A) (H : SL w (A ++ X)) :
    Does Tryz.prog 194 #[.pointer (some ⟨p, 0, none⟩), .agg #[.int .i64 fr, .int .i64 count]] w fun r w' => r = .tuple #[.pointer none, EV 1] ∧ SL w' (A ++ X) := by
  refine Does.intro (args := [_, _]) (e := [(0, _), (1, _)]) Tryz.func194 rfl Tryz.ntmps194 rfl rfl ?_
  refine .st ?_
  refine .st ?_
  refine RunsE.region ?_
  refine .ex (Ex.box H rfl) rfl ?_; (try clear H); rintro _ w ⟨b3, rfl, H⟩; simp only [Value.cells] at H; replace H := H.mid
  refine .au2 ?_
  refine .nil ?_
  refine .st ?_
  refine RunsE.region ?_
  refine .au1 ?_
  refine .ev (Ev.ptrNilEq (el := 256) rfl rfl (by kernel_rfl)) rfl ?_
  refine .au1 ?_
  first | refine .ye (Ev.loadBlk (n := 2) (vs := [.int .i64 fr, .int .i64 count]) H rfl (by kernel_rfl) rfl (List.mem_append_right _ (.head _))) ?_ | refine .nf ?_
  refine .au1 ?_
  first | (refine .yes rfl rfl ?_; refine .ex (Ex.call rfl Tryz.call251 (may_spec fr count b1 b2 st p A w _ hA H)) rfl ?_; (try clear H); rintro r w ⟨hr, H⟩; rw [decide_eq_false hbad] at hr; subst hr) | refine .nf ?_
  first | refine .ye (Ev.not rfl) ?_ | refine .nf ?_
  refine .au1 ?_
  refine .nil ?_
  refine .st ?_
  refine .st ?_
  refine RunsE.region ?_
  refine .ev (Ev.makeInterface (d := (.int .i64)) rfl (by kernel_rfl) rfl) rfl ?_
  refine .au2 ?_
  refine .nil ?_
  refine .st ?_
  exact RunsE.ret2 Tryz.func194 rfl rfl rfl ⟨rfl, H.dropMid⟩

set_option maxHeartbeats 4000000 in
theorem open_spec [Strm] (p fr count : Nat) (st : St) (A : List (Nat × Obj)) (hd : st.down = false) (hc1 : 2 ≤ count) (hc : count ≤ 1024) (hr : fr + count ≤ st.P.length) (hQl : st.Q.length ≤ 1000000) (w : World) (X : List (Nat × Obj)) (hA : HoldS p st A) (H : SL w (A ++ X)) :
    Does Tryz.prog 194 #[.pointer (some ⟨p, 0, none⟩), .agg #[.int .i64 (fr : Int), .int .i64 (count : Int)]] w fun r w' =>
      (openM count (fun i => st.page (fr + i)) = none ∧ r = .tuple #[.pointer none, EV 14] ∧ SL w' (A ++ X)) ∨
      (∃ l s m o, openM count (fun i => st.page (fr + i)) = some l ∧ r = .tuple #[.pointer (some ⟨s, 0, none⟩), .nilIface] ∧ Mp o (kvL l) ∧ SL w' ((s, shO p fr count m 0) :: (m, o) :: (A ++ X))) := by
  have hok := hA.ok
  have hP := hok.pages
  have hrd : st.read ((fr : Nat) : Int) = (st.page fr, 0) := by
    rw [read_up (by unfold St.has; simp; omega) hd, Int.toNat_natCast]
  have hsz := page_sz hok fr
  obtain ⟨pg, hpg0⟩ : ∃ pg : Nat → List UInt8, pg = fun i => st.page (fr + i) := ⟨_, rfl⟩
  have hpg : ∀ i, st.page (fr + i) = pg i := fun i => by rw [hpg0]
  rw [← hpg0]
  clear hpg0
  obtain ⟨line, hline⟩ : ∃ line, line = pg 0 := ⟨_, rfl⟩
  have hl0 : st.page fr = line := by rw [hline, ← hpg, Nat.add_zero]
  rw [hl0] at hrd hsz
  have hopen : openM count pg = openM count pg := rfl
  conv at hopen => rhs; unfold openM
  rw [← hline] at hopen
  obtain ⟨R, hR⟩ : ∃ R, R = openM count pg := ⟨_, rfl⟩
  rw [← hR] at hopen ⊢
  clear hR
  refine Does.intro (args := [_, _]) (e := [(0, _), (1, _)]) Tryz.func194 rfl Tryz.ntmps194 rfl rfl ?_
  refine .st ?_
  refine .st ?_
  refine RunsE.region ?_
  refine .ex (Ex.box H rfl) rfl ?_; (try clear H); rintro _ w ⟨b3, rfl, H⟩; simp only [Value.cells] at H; replace H := H.mid
  refine .au2 ?_
  refine .nil ?_
  obtain ⟨X1, hX1⟩ : ∃ X1, X1 = (b3, Obj.cells #[.int .i64 (fr : Int), .int .i64 (count : Int)] 308 (0, 0)) :: X := ⟨_, rfl⟩
  rw [← hX1] at H
  have hb3 : (b3, Obj.cells #[.int .i64 (fr : Int), .int .i64 (count : Int)] 308 (0, 0)) ∈ X1 := by rw [hX1]; exact .head _
  refine .st ?_
  refine RunsE.region ?_
  refine .au1 ?_
  refine .ev (Ev.ptrNilEq (el := 256) rfl rfl (by kernel_rfl)) rfl ?_
  refine .au1 ?_
  first | refine .ye (Ev.loadBlk (n := 2) (vs := [.int .i64 fr, .int .i64 count]) H rfl (by kernel_rfl) rfl (List.mem_append_right _ hb3)) ?_ | refine .nf ?_
  refine .au1 ?_
  first | (refine .yes rfl rfl ?_; refine .ex (Ex.call rfl Tryz.call251 (may_spec (fr : Int) (count : Int) (by omega) (by omega) st p A w _ hA H)) rfl ?_; (try clear H); rintro r w ⟨hr, H⟩; rw [decide_eq_true ⟨by omega, by omega, by omega, by omega, by omega⟩] at hr; subst hr) | refine .nf ?_
  first | refine .ye (Ev.not rfl) ?_ | refine .nf ?_
  refine .au1 ?_
  refine .nil ?_
  refine .st ?_
  refine .st ?_
  refine RunsE.region ?_
  refine .au1 ?_
  refine .ev (Ev.loadBlk (n := 2) (vs := [.int .i64 fr, .int .i64 count]) H rfl (by kernel_rfl) rfl (List.mem_append_right _ hb3)) rfl ?_
  refine .ex (Ex.makeMapS H) rfl ?_; (try clear H); rintro _ w ⟨m, o, rfl, ho, H⟩
  refine .ev (Ev.buildSt (pl := [(0, 1), (1, 2), (3, 1), (4, 1)]) (zv := .agg #[.pointer none, .int .i64 0, .int .i64 0, .map none, .nilIface]) rfl (by kernel_rfl) (by kernel_rfl) rfl) rfl ?_
  refine .ex (Ex.box H rfl) rfl ?_; (try clear H); rintro _ w ⟨s, rfl, H⟩; simp only [Value.cells] at H
  refine .au1 ?_
  refine .nil ?_
  replace H : SL w ((s, shO p fr count m 0) :: (m, o) :: (A ++ X1)) := H
  obtain ⟨X2, hX2⟩ : ∃ X2, X2 = (s, shO p fr count m 0) :: X1 := ⟨_, rfl⟩
  replace H : SL w (A ++ ((m, o) :: X2)) := H.perm (by rw [hX2]; exact perm_of fun a => by simp only [List.count_append, List.count_cons]; omega)
  have hb3' : (b3, Obj.cells #[.int .i64 (fr : Int), .int .i64 (count : Int)] 308 (0, 0)) ∈ X2 := by rw [hX2]; exact .tail _ hb3
  have hs2 : (s, shO p fr count m 0) ∈ X2 := by rw [hX2]; exact .head _
  have hfin : ∀ {w : World} {o : Obj}, SL w (A ++ ((m, o) :: X2)) → SL w ((s, shO p fr count m 0) :: (m, o) :: (A ++ X)) := fun {w o} H => by
    refine H.less [(b3, Obj.cells #[.int .i64 (fr : Int), .int .i64 (count : Int)] 308 (0, 0))] (perm_of fun a => ?_)
    rw [hX2, hX1]
    simp only [List.count_append, List.count_cons, List.count_nil]
    omega
  have hfin0 : ∀ {w : World} {o : Obj}, SL w (A ++ ((m, o) :: X2)) → SL w (A ++ X) := fun H => (hfin H).drop.drop
  clear hX2 hX1 hb3
  refine .st ?_
  refine RunsE.region ?_
  refine .au1 ?_
  refine .ev (Ev.fieldAddr (o := 0) rfl (by kernel_rfl)) rfl ?_
  refine .ev (Ev.load H rfl (by kernel_rfl) (Rd.mk (List.mem_append_right _ (.tail _ hb3')) rfl)) rfl ?_
  refine .ex (Ex.call rfl Tryz.call252 (read_spec st ((fr : Nat) : Int) p A hQl w _ hA H)) rfl ?_; (try clear H); rintro _ w ⟨vb, Bb, rfl, hsb, H⟩; rw [hrd] at hsb
  refine .au5 ?_
  refine .nil ?_
  rw [hrd]
  obtain ⟨ab, cb, rfl, hcb⟩ := hsb.leCap
  by_cases hl : line = []
  · rw [if_pos hl] at hopen
    refine .st ?_
    refine RunsE.region ?_
    refine .au1 ?_
    refine .ev (Ev.errNe (n := 0) rfl rfl) rfl ?_
    refine .au2 ?_
    first | refine .ye (Ev.lenSl (d := 5) rfl rfl (by kernel_rfl)) ?_ | refine .nf ?_
    first | refine .ye (Ev.eql (r := true) rfl rfl (by rw [hl]; rfl)) ?_ | refine .nf ?_
    refine .au1 ?_
    refine .nil ?_
    refine .st ?_
    refine .st ?_
    refine RunsE.region ?_
    refine .au2 ?_
    refine .ex (Ex.call rfl Tryz.call253 (or_spec s w _ H)) rfl ?_; (try clear H); rintro _ w ⟨rfl, H⟩
    refine .au4 ?_
    refine .nil ?_
    refine .st ?_
    exact RunsE.ret2 Tryz.func194 rfl rfl rfl (.inr ⟨[], s, m, o, hopen, rfl, ho, hfin H.dropL⟩)
  rw [if_neg hl] at hopen
  have hpos : 0 < line.length := List.length_pos_iff.2 hl
  refine .st ?_
  refine RunsE.region ?_
  refine .au1 ?_
  refine .ev (Ev.errNe (n := 0) rfl rfl) rfl ?_
  refine .au2 ?_
  first | refine .ye (Ev.lenSl (d := 5) rfl rfl (by kernel_rfl)) ?_ | refine .nf ?_
  first | refine .ye (Ev.eql (r := false) rfl rfl (beq_eq_false_iff_ne.2 (by simp only; omega))) ?_ | refine .nf ?_
  refine .au1 ?_
  refine .nil ?_
  refine .st ?_
  refine .st ?_
  refine RunsE.region ?_
  refine .au1 ?_
  refine .ex (Ex.call rfl Tryz.call76 (rread_spec _ w _ H ⟨_, _, _, rfl⟩)) rfl ?_; (try clear H); rintro _ w ⟨br, rfl, H⟩
  refine .au1 ?_
  refine .nil ?_
  have hin : ∀ {Y : List (Nat × Obj)}, Inp (Bb ++ Y) (.slice ab line.length cb) line := hsb.inp
  refine .st ?_
  refine RunsE.region ?_
  refine .au1 ?_
  refine .nil ?_
  obtain ⟨K, hK⟩ : ∃ K, K = countM (count - 1) (line, 0) := ⟨_, rfl⟩
  have hKle := countM_le (count - 1) (line, 0)
  rw [← hK] at hopen hKle
  have hb3'' : ∀ {Q Q' : List (Nat × Obj)} {x y : Nat × Obj}, (b3, Obj.cells #[.int .i64 (fr : Int), .int .i64 (count : Int)] 308 (0, 0)) ∈ x :: (Q ++ (Q' ++ (y :: X2))) := fun {Q Q' x y} => .tail _ (List.mem_append_right _ (List.mem_append_right _ (.tail _ hb3')))
  refine .st ?_
  refine RunsE.region ?_
  refine .au1 ?_
  refine .ev (Ev.fieldAddr (o := 1) rfl (by kernel_rfl)) rfl ?_
  refine .ev (Ev.load H rfl (by kernel_rfl) (Rd.mk hb3'' rfl)) rfl ?_
  refine .ev (Ev.sub (c := ((count - 1 : Nat) : Int)) rfl rfl (by rw [qi64 (by omega) (by omega)]; omega)) rfl ?_
  refine .ex (Ex.call rfl Tryz.call79 (rcount_spec br _ line 0 0 (count - 1) (by omega) (by omega) (by omega) w _ hin H)) rfl ?_; (try clear H); rintro _ w ⟨k, hk, hdk, rfl, H⟩; rw [List.drop_zero, ← hK] at hdk H
  refine .au1 ?_
  refine .nil ?_
  rw [List.drop_zero, ← hK]
  have hdr : ∀ {w : World} {k e : Nat} {o : Obj}, SL w ((br, rdO (.slice ab line.length cb) k e) :: (Bb ++ (A ++ ((m, o) :: X2)))) → SL w (A ++ ((m, o) :: X2)) := fun H => H.drop.dropL
  repeat refine RunsE.seq ?_
  refine RunsE.join (fun _ : Unit => [(6, .pointer (some ⟨s, 0, none⟩)), (9, .pointer (some ⟨br, 0, none⟩))])
    (fun _ w => ∃ k R1 l o, k ≤ line.length ∧ R1.1 = line.drop k ∧ openLoop count pg K.2 K.1 0 [] = some (R1, l) ∧ Mp o (kvL l) ∧ SL w ((br, rdO (.slice ab line.length cb) k R1.2) :: (Bb ++ (A ++ ((m, o) :: X2))))) (fun next => ?_) ?_
  · refine RunsE.block ?_
    refine RunsE.loop (fun u : Nat × Nat => [(3, .pointer (some ⟨b3, 0, none⟩)), (6, .pointer (some ⟨s, 0, none⟩)), (9, .pointer (some ⟨br, 0, none⟩)), (10, .int .i64 (u.2 : Int)), (52, .int .i64 (K.2 : Int)), (53, .int .i64 (u.1 : Int))])
      (fun u w => ∃ k R1 l o, u.1 ≤ K.2 ∧ k ≤ line.length ∧ R1.1 = line.drop k ∧ openLoop count pg K.2 K.1 0 [] = openLoop count pg (K.2 - u.1) R1 u.2 l ∧ Mp o (kvL l) ∧ SL w ((br, rdO (.slice ab line.length cb) k R1.2) :: (Bb ++ (A ++ ((m, o) :: X2)))))
      (fun u => K.2 - u.1) (0, 0) ⟨rfl, rfl, rfl, rfl, rfl, rfl, trivial⟩ ⟨k, K.1, [], o, by omega, hk, hdk.symm, rfl, ho, H⟩ ?_
    clear H ho
    rintro ⟨i, last⟩ w ⟨k, R1, l, o, hi, hk, hR1, hlp, ho, H⟩ nextL
    simp only at hi hlp
    by_cases h1 : i = K.2
    ·
      refine .st ?_
      refine RunsE.region ?_
      refine .ev (Ev.lss (r := false) rfl rfl (decide_eq_false (by simp only; omega))) rfl ?_
      refine .nil ?_
      repeat refine RunsE.seq ?_
      refine RunsE.no rfl ?_
      refine RunsE.exit rfl ?_
      rw [h1, Nat.sub_self] at hlp
      exact next () _ _ ⟨k, R1, l, o, hk, hR1, hlp, ho, H⟩ ⟨rfl, rfl, trivial⟩
    · clear next
      rw [show K.2 - i = (K.2 - (i + 1)) + 1 by omega] at hlp
      conv at hlp => rhs; unfold openLoop
      obtain ⟨V, hV⟩ : ∃ V, V = uintM (count - 1) R1 := ⟨_, rfl⟩
      have hVle := uintM_le (count - 1) R1
      rw [← hV] at hlp hVle
      have hR1' : (line.drop k, R1.2) = R1 := by rw [← hR1]
      refine .st ?_
      refine RunsE.region ?_
      refine .ev (Ev.lss (r := true) rfl rfl (decide_eq_true (by simp only; omega))) rfl ?_
      refine .nil ?_
      refine .st ?_
      refine .st ?_
      refine RunsE.region ?_
      refine .au1 ?_
      refine .ev (Ev.fieldAddr (o := 1) rfl (by kernel_rfl)) rfl ?_
      refine .ev (Ev.load H rfl (by kernel_rfl) (Rd.mk hb3'' rfl)) rfl ?_
      refine .ev (Ev.sub (c := ((count - 1 : Nat) : Int)) rfl rfl (by rw [qi64 (by omega) (by omega)]; omega)) rfl ?_
      refine .ev (Ev.conv (c := ((count - 1 : Nat) : Int)) (k' := .u64) rfl (by kernel_rfl) (by kernel_rfl) (qu64 (by omega) (by omega))) rfl ?_
      refine .ex (Ex.call rfl Tryz.call78 (ruint_spec br _ line k R1.2 (count - 1) hk (by omega) w _ hin H)) rfl ?_; (try clear H); rintro _ w ⟨k1, hk1, hdk1, rfl, H⟩; rw [hR1', ← hV] at hdk1 H
      refine .ev (Ev.conv (c := (V.2 : Int)) (k' := .i64) (by rw [hR1', ← hV]; rfl) (by kernel_rfl) (by kernel_rfl) (qi64 (by omega) (by omega))) rfl ?_
      refine .au1 ?_
      refine .nil ?_
      refine .st ?_
      refine RunsE.region ?_
      refine .au2 ?_
      refine .ev (Ev.leq (r := decide (V.2 ≤ last)) rfl rfl (by rw [Bool.eq_iff_iff, decide_eq_true_iff, decide_eq_true_iff]; simp only; omega)) rfl ?_
      refine .nil ?_
      by_cases h2 : V.2 ≤ last
      · repeat refine RunsE.seq ?_
        refine RunsE.yes (by rw [decide_eq_true h2]; rfl) ?_
        refine .st ?_
        refine RunsE.region ?_
        refine .ev (Ev.makeInterface (d := (.int .i64)) rfl (by kernel_rfl) rfl) rfl ?_
        refine .au2 ?_
        refine .nil ?_
        refine .st ?_
        rw [if_pos h2] at hlp
        rw [hlp] at hopen
        exact RunsE.ret2 Tryz.func194 rfl rfl rfl (.inl ⟨hopen, rfl, hfin0 (hdr H)⟩)
      repeat refine RunsE.seq ?_
      refine RunsE.no (by rw [decide_eq_false h2]; rfl) ?_
      rw [if_neg h2] at hlp
      refine RunsE.skip ?_
      obtain ⟨D, hD⟩ : ∃ D, D = (br, rdO (.slice ab line.length cb) k1 V.1.2) :: Bb := ⟨_, rfl⟩
      replace H : SL w (A ++ ((m, o) :: (D ++ X2))) := H.perm (by rw [hD]; exact perm_of fun a => by simp only [List.count_append, List.count_cons]; omega)
      have hbk : ∀ {w : World} {o : Obj}, SL w (A ++ ((m, o) :: (D ++ X2))) → SL w ((br, rdO (.slice ab line.length cb) k1 V.1.2) :: (Bb ++ (A ++ ((m, o) :: X2)))) := fun H => H.perm (by rw [hD]; exact perm_of fun a => by simp only [List.count_append, List.count_cons]; omega)
      refine .st ?_
      refine RunsE.region ?_
      refine .au2 ?_
      refine .nil ?_
      refine .st ?_
      refine RunsE.region ?_
      refine .au2 ?_
      refine .ex (Ex.call rfl Tryz.call254 (sread_spec s p fr count m 0 o st l V.2 A hd (by omega) hQl w _ (List.mem_append_right _ hs2) ho hA H)) rfl ?_; rintro r w hpost; rw [hpg] at hpost
      refine .au1 ?_
      refine .nil ?_
      by_cases h3 : doneM (bytesM 4096 (bytesM 4096 (pg V.2, 0)).1).1 ≠ 0 ∨ (findL l (bytesM 4096 (pg V.2, 0)).2).isSome = true
      · rw [if_pos h3] at hpost hlp
        obtain ⟨rfl, H⟩ := hpost
        refine .st ?_
        refine RunsE.region ?_
        refine .au1 ?_
        refine .ev (Ev.errNe (n := 14) rfl rfl) rfl ?_
        refine .nil ?_
        refine .st ?_
        refine .st ?_
        refine RunsE.region ?_
        refine .au3 ?_
        refine .nil ?_
        refine .st ?_
        rw [hlp] at hopen
        exact RunsE.ret2 Tryz.func194 rfl rfl rfl (.inl ⟨hopen, rfl, hfin0 (hdr (hbk H))⟩)
      · rw [if_neg h3] at hpost hlp
        obtain ⟨o', rfl, ho', H⟩ := hpost
        refine .st ?_
        refine RunsE.region ?_
        refine .au1 ?_
        refine .ev (Ev.errNe (n := 0) rfl rfl) rfl ?_
        refine .nil ?_
        repeat refine RunsE.seq ?_
        refine RunsE.no rfl ?_
        refine RunsE.skip ?_
        refine RunsE.inBlock ?_
        refine .st ?_
        refine RunsE.region ?_
        refine .ev (Ev.add (c := ((i + 1 : Nat) : Int)) rfl rfl (by simp only; rw [qi64 (by omega) (by omega)]; omega)) rfl ?_
        refine .au1 ?_
        refine .nil ?_
        exact nextL (i + 1, V.2) _ _ (by simp only; omega) ⟨k1, V.1, _, o', by simp only; omega, hk1, hdk1.symm, hlp, ho', hbk H⟩ ⟨rfl, rfl, rfl, rfl, rfl, rfl, trivial⟩
  clear H ho
  rintro _ w ⟨k, R1, l, o, hk, hR1, hlp, ho, H⟩
  rw [hlp] at hopen
  have hR1' : (line.drop k, R1.2) = R1 := by rw [← hR1]
  refine .st ?_
  refine RunsE.region ?_
  refine .au1 ?_
  refine .ex (Ex.call rfl Tryz.call81 (rdone_spec br _ line k R1.2 hk (by omega) w _ hin H)) rfl ?_; (try clear H); rintro _ w ⟨rfl, H⟩
  refine .ev (Ev.errNe rfl rfl) rfl ?_
  refine .nil ?_
  rw [hR1']
  by_cases h4 : doneM R1 = 0
  · repeat refine RunsE.seq ?_
    refine RunsE.no (by rw [h4]; rfl) ?_
    simp only [h4, ne_eq, not_true, if_false] at hopen
    refine .st ?_
    refine RunsE.region ?_
    refine .au3 ?_
    refine .nil ?_
    refine .st ?_
    exact RunsE.ret2 Tryz.func194 rfl rfl rfl (.inr ⟨l, s, m, o, hopen, rfl, ho, hfin (hdr H)⟩)
  · repeat refine RunsE.seq ?_
    refine RunsE.yes (congrArg (fun b => some (Value.bool b)) (decide_eq_true h4)) ?_
    simp only [ne_eq, h4, not_false_eq_true, if_true] at hopen
    refine .st ?_
    refine RunsE.region ?_
    refine .ev (Ev.makeInterface (d := (.int .i64)) rfl (by kernel_rfl) rfl) rfl ?_
    refine .au2 ?_
    refine .nil ?_
    refine .st ?_
    exact RunsE.ret2 Tryz.func194 rfl rfl rfl (.inl ⟨hopen, rfl, hfin0 (hdr H)⟩)

end Go.Proofs.YtdppnaahdilkcaaGreatDoor
end

section
/-
  A way to run code by reckoning (XX): contracts that hold: pages, shelves.
-/
namespace Go.Proofs.YtdppnaahdilkcaaGreatDoor.Kp
open Go.Proofs.YtdppnaahdilkcaaGreatDoor.V
open Go.K
open Go.Proofs.YtdppnaahdilkcaaGreatDoor.Bl

/-- Two areas beside one another, of a store that is up. -/
structure TwoK (st : St) (x y : Option (Nat × List Lf)) : Prop where
  up : st.down = false
  q : st.Q = []
  arm : st.armed = false
  len : st.P.length = 2048
  a : LaidS st.P 0 1024 ((x.map (·.2)).getD [])
  b : LaidS st.P 1024 1024 ((y.map (·.2)).getD [])
  oa : OkL ((x.map (·.2)).getD []) 1024
  ob : OkL ((y.map (·.2)).getD []) 1024
  na : x = none → st.P.getD 0 [] = []
  nb : y = none → st.P.getD 1024 [] = []

/-- A shelf in memory. -/
def ShIn (S : Si) (p fr : Nat) : Option (Nat × List Lf) → List (Nat × Obj) → Prop
  | none, L => L = []
  | some (i, l), L => ∃ m o, Mp o (kvL l) ∧ S.b i = 0 ∧ L = [(S.s i, shO p fr 1024 m 0), (m, o)]

theorem ShIn.agree {S S' : Si} {D : Dm} (ha : Agree D S S') {p fr : Nat} {x : Option (Nat × List Lf)} {L : List (Nat × Obj)} (hx : ∀ i ∈ numO x, D i) (h : ShIn S p fr x L) : ShIn S' p fr x L := by
  cases x with
  | none => exact h
  | some q =>
    obtain ⟨i, l⟩ := q
    obtain ⟨m, o, h1, h2, h3⟩ := h
    obtain ⟨a1, a2, _⟩ := ha i (hx i (.head _))
    exact ⟨m, o, h1, a2.trans h2, by rw [a1]; exact h3⟩

/-- Pages and their shelves in memory. -/
def DiskH (S : Si) (b : Nat) (x y : Option (Nat × List Lf)) (L : List (Nat × Obj)) : Prop := ∃ st A L1 L2, HoldS (S.s b) st A ∧ TwoK st x y ∧ S.b b = 0 ∧ ShIn S (S.s b) 0 x L1 ∧ ShIn S (S.s b) 1024 y L2 ∧ L = A ++ (L1 ++ L2)

def obH (S : Si) (b : Nat) (o : Ob) (L : List (Nat × Obj)) : Prop := match o with
  | .disk x y => DiskH S b x y L
  | .ref _ => L = []

theorem obH.agree {S S' : Si} {n : Dm} {b : Nat} {o : Ob} {L : List (Nat × Obj)} (ha : Agree n S S') (hb : n b) (hi : ∀ i ∈ o.nums, n i) (h : obH S b o L) : obH S' b o L := by
  cases o with
  | ref b' => exact h
  | disk x y =>
    obtain ⟨st, A, L1, L2, h1, h2, h3, h4, h5, h6⟩ := h
    obtain ⟨a1, a2, _⟩ := ha b hb
    refine ⟨st, A, L1, L2, by rw [a1]; exact h1, h2, a2.trans h3, ?_, ?_, h6⟩
    · rw [a1]; exact ShIn.agree ha (fun i h => hi i (List.mem_append_left _ h)) h4
    · rw [a1]; exact ShIn.agree ha (fun i h => hi i (List.mem_append_right _ h)) h5

instance obsT : Obs where
  holds := obH
  agree := obH.agree
  glob := OrderIn
  mono := fun hs h r i hr hi => (h r i hr hi).sub hs

theorem rep_getD (n i : Nat) : (List.replicate n ([] : List UInt8)).getD i [] = [] := by
  rw [List.getD_eq_getElem?_getD, List.getElem?_replicate]
  split <;> rfl

theorem TwoK.new : TwoK (St.new 2048) none none :=
  ⟨rfl, rfl, rfl, List.length_replicate, laid_new (by omega), laid_new (by omega), OkL.nil _, OkL.nil _, fun _ => rep_getD 2048 0, fun _ => rep_getD 2048 1024⟩

/-- New pages. -/
theorem pNew_ok [Strm] {args : List V} {M M' : Mem} {v : V} (h : pNew M args = some (v, M')) {S : Si} {H : Dm} {F : List (Nat × Obj)} {w : World} (hR : Rel S H M F w) :
    Does Tryz.prog 111 (concs S args).toArray w (Post S H M.nx F (some v) M') := by
  unfold pNew at h
  split at h
  · cases h
    obtain ⟨L, h1, h2⟩ := hR.beside
    refine (new_spec 2048 (by omega) (by omega) w _ h1).mono ?_
    rintro r w' ⟨b, A, rfl, hA, H'⟩
    have h3 : Rel S H M (A ++ F) w' := h2 _ _ (H'.perm (permOf fun a => by simp only [List.count_append]; omega))
    have ha : Agree (dom H M.nx) S (S.add M.nx b 0 0) := S.add_agree b 0 0 (dom_not H M.nx)
    have hd : dom H (M.nx + 1) M.nx := hR.new_dom (k := 0) (by omega)
    refine ⟨S.add M.nx b 0 0, ha, Nat.le_add_right _ _, fun v hv => ?_, Rel.new h3 ha ⟨hd, fun i hi => absurd hi (by simp [Ob.nums, numO]), St.new 2048, A, [], [], ?_, TwoK.new, by simp [Si.add], rfl, rfl, by simp⟩⟩
    · cases hv
      exact ⟨by simp [V.conc, concs, Si.add], hd, True.intro, True.intro⟩
    · have : (S.add M.nx b 0 0).s M.nx = b := by simp [Si.add]
      rw [this]
      exact hA
  · cases h

/-- A block, as it is told; and memory, unchanged. -/
theorem Rel.same [Strm] {S : Si} {H : Dm} {M : Mem} {F : List (Nat × Obj)} {w : World} {b : Nat} {blk : Blk} (h : Rel S H M F w) (hb : M.get b = some blk) :
    ∃ L1 L2, Holds S (dom H M.nx) b blk L1 ∧ SL w (L1 ++ (L2 ++ F)) ∧ ∀ w', SL w' (L1 ++ (L2 ++ F)) → Rel S H M F w' := by
  obtain ⟨hH, L, h1, h2⟩ := h
  obtain ⟨rest, hp, _⟩ := T.put_at hb
  obtain ⟨L', hL', L1, L2, rfl, hh1, _⟩ := h1.perm hp
  refine ⟨L1, L2, hh1, h2.perm (by rw [← List.append_assoc]; exact hL'.append_right F), fun w' h' => ⟨hH, L, h1, h'.perm ?_⟩⟩
  rw [← List.append_assoc]
  exact (hL'.append_right F).symm

/-- How many pages. -/
theorem pPages_ok [Strm] {args : List V} {M M' : Mem} {v : V} (h : pPages M args = some (v, M')) {S : Si} {H : Dm} {F : List (Nat × Obj)} {w : World} (hR : Rel S H M F w) :
    Does Tryz.prog 193 (concs S args).toArray w (Post S H M.nx F (some v) M') := by
  unfold pPages at h
  split at h
  · rename_i b
    split at h
    · rename_i x y hg
      cases h
      obtain ⟨L1, L2, ⟨g1, g2, st, A, LX, LY, g3, g4, g5, g6, g7, rfl⟩, g8, g9⟩ := Rel.same hR hg
      have e1 : (concs S [V.ptr b 0]).toArray = #[.pointer (some ⟨S.s b, 0, none⟩)] := by simp [concs, V.conc, g5]
      rw [e1]
      refine (pages_spec st (S.s b) A w ((LX ++ LY) ++ (L2 ++ F)) g3 (by simpa [List.append_assoc] using g8)).mono ?_
      rintro r w' ⟨rfl, H'⟩
      refine ⟨S, .refl _ _, Nat.le_refl _, fun v hv => ?_, g9 w' (by simpa [List.append_assoc] using H')⟩
      cases hv
      exact ⟨by rw [g4.len]; rfl, True.intro⟩
    · cases h
  · cases h

/-- A shelf is opened on pages that hold nothing there. -/
theorem pOpen_ok [Strm] {args : List V} {M M' : Mem} {v : V} (h : pOpen M args = some (v, M')) {S : Si} {H : Dm} {F : List (Nat × Obj)} {w : World} (hR : Rel S H M F w) :
    Does Tryz.prog 194 (concs S args).toArray w (Post S H M.nx F (some v) M') := by
  unfold pOpen at h
  split at h
  · rename_i b fr
    split at h
    · rename_i x y hg
      cases hb : Nat.beq fr 0 with
      | true =>
        rw [hb] at h
        simp only [cond_true] at h
        have hfr : fr = 0 := Nat.eq_of_beq_eq_true hb
        subst hfr
        split at h
        · cases h
          obtain ⟨L1, L2, ⟨g1, g2, st, A, LX, LY, g3, g4, g5, g6, g7, rfl⟩, g8, g9, _⟩ := hR.at hg
          have gl : LX = [] := g6
          subst gl
          have hpg : st.page (0 + 0) = [] := by rw [page_noQ g4.q]; exact g4.na rfl
          have hop : openM 1024 (fun i => st.page (0 + i)) = some [] := by unfold openM; rw [if_pos hpg]
          have e1 : (concs S [V.ptr b 0, .agg [.int .i64 (.ofNat 0), .int .i64 (.ofNat 1024)]]).toArray = #[.pointer (some ⟨S.s b, 0, none⟩), .agg #[.int .i64 ((0 : Nat) : Int), .int .i64 ((1024 : Nat) : Int)]] := by simp [concs, V.conc, g5]
          rw [e1]
          refine (open_spec (S.s b) 0 1024 st A g4.up (by omega) (by omega) (by rw [g4.len]; omega) (by rw [g4.q]; simp) w (LY ++ (L2 ++ F)) g3 (by simpa [List.append_assoc] using g8)).mono ?_
          rintro r w' (⟨hbad, _⟩ | ⟨l, s, m, o, hl, rfl, ho, H'⟩)
          · rw [hop] at hbad; cases hbad
          · rw [hop] at hl
            cases hl
            have ha : Agree (dom H M.nx) S (S.add M.nx s 0 0) := S.add_agree s 0 0 (dom_not H M.nx)
            have hd : dom H (M.nx + 1) M.nx := hR.new_dom (k := 0) (by omega)
            obtain ⟨a1, a2, _⟩ := ha b g1
            have hs : (S.add M.nx s 0 0).s M.nx = s := by simp [Si.add]
            have hsb : (S.add M.nx s 0 0).b M.nx = 0 := by simp [Si.add]
            have hnew : ShIn (S.add M.nx s 0 0) (S.s b) 0 (some (M.nx, [])) [(s, shO (S.s b) 0 1024 m 0), (m, o)] := ⟨m, o, ho, hsb, by rw [hs]⟩
            refine ⟨S.add M.nx s 0 0, ha, Nat.le_add_right _ _, fun v hv => ?_, ?_⟩
            · cases hv
              exact ⟨by simp [V.conc, concs, hs, hsb], hd, True.intro, True.intro⟩
            · refine Rel.into (L1 := []) (M := ⟨T.put (some (b, .obj (.disk (some (M.nx, [])) y))) M.tr b, M.nx + 1⟩) (g9 _ (M.nx + 1) _ (A ++ ([(s, shO (S.s b) 0 1024 m 0), (m, o)] ++ LY)) w' ha (Nat.le_add_right _ _) ⟨dom_le (Nat.le_add_right _ _) _ g1, fun i hi => ?_, st, A, [(s, shO (S.s b) 0 1024 m 0), (m, o)], LY, by rw [a1]; exact g3, ?_, a2.trans g5, ?_, ?_, rfl⟩ ?_) ⟨hd, fun i hi => absurd hi (by simp [Ob.nums]), rfl⟩
              · rcases List.mem_cons.1 hi with rfl | hi
                · exact hd
                · exact dom_le (Nat.le_add_right _ _) _ (g2 i hi)
              · exact ⟨g4.up, g4.q, g4.arm, g4.len, g4.a, g4.b, g4.oa, g4.ob, nofun, g4.nb⟩
              · rw [a1]; exact hnew
              · rw [a1]; exact ShIn.agree ha (fun i hi => g2 i (List.mem_append_right _ hi)) g7
              · exact H'.perm (permOf fun a => by simp only [List.count_append, List.count_cons, List.count_nil]; omega)
        · cases h
      | false =>
        rw [hb] at h
        simp only [cond_false] at h
        replace h := bif_some h; obtain ⟨hb, h⟩ := h
        have hfr : fr = 1024 := Nat.eq_of_beq_eq_true hb
        subst hfr
        split at h
        · cases h
          obtain ⟨L1, L2, ⟨g1, g2, st, A, LX, LY, g3, g4, g5, g6, g7, rfl⟩, g8, g9, _⟩ := hR.at hg
          have gl : LY = [] := g7
          subst gl
          have hpg : st.page (1024 + 0) = [] := by rw [page_noQ g4.q]; exact g4.nb rfl
          have hop : openM 1024 (fun i => st.page (1024 + i)) = some [] := by unfold openM; rw [if_pos hpg]
          have e1 : (concs S [V.ptr b 0, .agg [.int .i64 (.ofNat 1024), .int .i64 (.ofNat 1024)]]).toArray = #[.pointer (some ⟨S.s b, 0, none⟩), .agg #[.int .i64 ((1024 : Nat) : Int), .int .i64 ((1024 : Nat) : Int)]] := by simp [concs, V.conc, g5]
          rw [e1]
          refine (open_spec (S.s b) 1024 1024 st A g4.up (by omega) (by omega) (by rw [g4.len]; omega) (by rw [g4.q]; simp) w (LX ++ (L2 ++ F)) g3 (by simpa [List.append_assoc] using g8)).mono ?_
          rintro r w' (⟨hbad, _⟩ | ⟨l, s, m, o, hl, rfl, ho, H'⟩)
          · rw [hop] at hbad; cases hbad
          · rw [hop] at hl
            cases hl
            have ha : Agree (dom H M.nx) S (S.add M.nx s 0 0) := S.add_agree s 0 0 (dom_not H M.nx)
            have hd : dom H (M.nx + 1) M.nx := hR.new_dom (k := 0) (by omega)
            obtain ⟨a1, a2, _⟩ := ha b g1
            have hs : (S.add M.nx s 0 0).s M.nx = s := by simp [Si.add]
            have hsb : (S.add M.nx s 0 0).b M.nx = 0 := by simp [Si.add]
            have hnew : ShIn (S.add M.nx s 0 0) (S.s b) 1024 (some (M.nx, [])) [(s, shO (S.s b) 1024 1024 m 0), (m, o)] := ⟨m, o, ho, hsb, by rw [hs]⟩
            refine ⟨S.add M.nx s 0 0, ha, Nat.le_add_right _ _, fun v hv => ?_, ?_⟩
            · cases hv
              exact ⟨by simp [V.conc, concs, hs, hsb], hd, True.intro, True.intro⟩
            · refine Rel.into (L1 := []) (M := ⟨T.put (some (b, .obj (.disk x (some (M.nx, []))))) M.tr b, M.nx + 1⟩) (g9 _ (M.nx + 1) _ (A ++ (LX ++ [(s, shO (S.s b) 1024 1024 m 0), (m, o)])) w' ha (Nat.le_add_right _ _) ⟨dom_le (Nat.le_add_right _ _) _ g1, fun i hi => ?_, st, A, LX, [(s, shO (S.s b) 1024 1024 m 0), (m, o)], by rw [a1]; exact g3, ?_, a2.trans g5, ?_, ?_, rfl⟩ ?_) ⟨hd, fun i hi => absurd hi (by simp [Ob.nums]), rfl⟩
              · rcases List.mem_append.1 hi with hi | hi
                · exact dom_le (Nat.le_add_right _ _) _ (g2 i (List.mem_append_left _ hi))
                · rw [List.mem_singleton.1 hi]; exact hd
              · exact ⟨g4.up, g4.q, g4.arm, g4.len, g4.a, g4.b, g4.oa, g4.ob, g4.na, nofun⟩
              · rw [a1]; exact ShIn.agree ha (fun i hi => g2 i (List.mem_append_left _ hi)) g6
              · rw [a1]; exact hnew
              · exact H'.perm (permOf fun a => by simp only [List.count_append, List.count_cons, List.count_nil]; omega)
        · cases h
    · cases h
  · cases h

theorem diskAt_spec {M : Mem} {s b : Nat} {x y : Option (Nat × List Lf)} (h : diskAt M s = some (b, x, y)) : M.get b = some (.obj (.disk x y)) := by
  unfold diskAt at h
  split at h
  · split at h
    · cases h; assumption
    · cases h
  · cases h

theorem ofShelf_spec {s : Nat} {x y : Option (Nat × List Lf)} {t : Bool} {l : List Lf} (h : ofShelf s x y = some (t, l)) : (t = true ∧ x = some (s, l)) ∨ (t = false ∧ y = some (s, l)) := by
  have hy : ∀ {y : Option (Nat × List Lf)}, (match y with
      | some (s', l) => Bool.rec (motive := fun _ => Option (Bool × List Lf)) none (some (false, l)) (Nat.beq s' s)
      | none => none) = some (t, l) → t = false ∧ y = some (s, l) := fun {y} h => by
    split at h
    · rw [brec] at h
      obtain ⟨h1, h2⟩ := bif_some h
      cases h2
      rw [Nat.eq_of_beq_eq_true h1]
      exact ⟨rfl, rfl⟩
    · cases h
  unfold ofShelf at h
  split at h
  · rename_i s' l'
    rw [brec] at h
    cases hb : Nat.beq s' s with
    | true =>
      rw [hb] at h
      cases h
      rw [Nat.eq_of_beq_eq_true hb]
      exact .inl ⟨rfl, rfl⟩
    | false =>
      rw [hb] at h
      exact .inr (hy h)
  · exact .inr (hy h)

/-- A shelf, where it lies. -/
theorem shelf_in {S : Si} {s b : Nat} {x y : Option (Nat × List Lf)} {t : Bool} {l : List Lf} {A LX LY : List (Nat × Obj)} (h : ofShelf s x y = some (t, l)) (hx : ShIn S (S.s b) 0 x LX) (hy : ShIn S (S.s b) 1024 y LY) :
    ∃ m o, Mp o (kvL l) ∧ S.b s = 0 ∧ (S.s s, shO (S.s b) (bif t then 0 else 1024) 1024 m 0) ∈ A ++ (LX ++ LY) ∧ (m, o) ∈ A ++ (LX ++ LY) := by
  rcases ofShelf_spec h with ⟨rfl, rfl⟩ | ⟨rfl, rfl⟩
  · obtain ⟨m, o, h1, h2, rfl⟩ := hx
    exact ⟨m, o, h1, h2, by simp, by simp⟩
  · obtain ⟨m, o, h1, h2, rfl⟩ := hy
    exact ⟨m, o, h1, h2, by simp, by simp⟩

theorem findLf_eq (k : List UInt8) : ∀ l : List Lf, findLf k l = (findL l k).map (·.val)
  | [] => rfl
  | y :: r => by
    unfold findLf
    rw [findLf_eq k r]
    unfold findL
    rw [List.find?_cons]
    cases decide (y.key = k) <;> rfl

/-- What lies at a key. -/
theorem pGet_ok [Strm] {args : List V} {M M' : Mem} {v : V} (h : pGet M args = some (v, M')) {S : Si} {H : Dm} {F : List (Nat × Obj)} {w : World} (hR : Rel S H M F w) :
    Does Tryz.prog 211 (concs S args).toArray w (Post S H M.nx F (some v) M') := by
  unfold pGet at h
  split at h
  · rename_i s k
    split at h
    · rename_i b x y hd
      split at h
      · rename_i t l hs
        obtain ⟨L1, L2, ⟨g1, g2, st, A, LX, LY, g3, g4, g5, g6, g7, rfl⟩, g8, g9⟩ := Rel.same hR (diskAt_spec hd)
        obtain ⟨m, o, h1, h2, h3, h4⟩ := shelf_in (A := A) hs g6 g7
        have e1 : (concs S [V.ptr s 0, .str k]).toArray = #[.pointer (some ⟨S.s s, 0, none⟩), sV k] := by simp [concs, V.conc, h2]
        rw [e1]
        refine (get_spec (S.s s) (S.s b) _ 1024 m 0 o l k w _ (List.mem_append_left _ h3) (List.mem_append_left _ h4) h1 g8).mono ?_
        rintro r w' ⟨rfl, H'⟩
        rw [findLf_eq] at h
        cases hf : findL l k with
        | none =>
          rw [hf] at h
          cases h
          exact ⟨S, .refl _ _, Nat.le_refl _, fun v hv => by cases hv; exact ⟨by simp [V.conc, concs], True.intro, True.intro, True.intro⟩, g9 _ H'⟩
        | some z =>
          rw [hf] at h
          cases h
          exact ⟨S, .refl _ _, Nat.le_refl _, fun v hv => by cases hv; exact ⟨by simp [V.conc, concs], True.intro, True.intro, True.intro⟩, g9 _ H'⟩
      · cases h
    · cases h
  · cases h

/-! ## Set -/

theorem chOf_spec {S : Si} : ∀ {vs : List V} {cs : List Ch}, chOf vs = some cs → concs S vs = cs.flatMap gC := by
  intro vs
  induction vs using chOf.induct with
  | case1 => intro cs h; cases h; rfl
  | case2 k v g r l hl ih =>
    intro cs h
    rw [chOf, hl] at h
    cases h
    simp only [concs, V.conc, List.flatMap_cons, ih hl]
    rfl
  | case3 k v g r hl ih =>
    intro cs h
    rw [chOf, hl] at h
    cases h
  | case4 vs h1 h2 =>
    intro cs h
    unfold chOf at h
    split at h
    · exact (h1 rfl).elim
    · rename_i k v g r
      exact (h2 k v g r rfl).elim
    · cases h

/-- Changes, as they are read. -/
theorem chIn_spec {S : Si} {M : Mem} {L : List (Nat × Obj)} {u : V} {cs : List Ch} (hrow : ∀ b cs, M.row b = some cs → ∀ i v, cs[i]? = some v → Rd L ⟨S.s b, S.b b + i, none⟩ (v.conc S))
    (hopn : ∀ b z cs ty sz, M.get b = some (.opn z cs ty sz) → cs.length ≤ S.k b * sz) (h : chIn M u = some cs) : ElsA 3 (ChAt L) (u.conc S) cs := by
  unfold chIn at h
  split at h
  · cases h; exact .nil
  · rename_i b o n c
    cases hn : Nat.beq n 0 with
    | true =>
      rw [hn] at h
      cases h
      obtain rfl : n = 0 := by simpa using hn
      exact .empty _ _
    | false =>
      rw [hn] at h
      simp only [cond_false] at h
      have hn := Nat.ne_of_beq_eq_false hn
      replace h := bif_some h; obtain ⟨hc, h⟩ := h
      split at h
      · rename_i row hr
        split at h
        · rename_i vs hs
          obtain ⟨h1, h2, h3⟩ := seg_spec hs
          have hcs := chOf_spec (S := S) h
          have hg3 : ∀ c : Ch, (gC c).length = 3 := fun c => rfl
          have hlen : cs.length = n := by
            have := congrArg List.length hcs
            rw [concs_len, h1, flatMap_length hg3] at this
            omega
          have hcap : n ≤ c.cap S b := by
            cases c with
            | ex k => exact Nat.le_of_ble_eq_true hc
            | op m d =>
              simp only [capOk] at hc
              split at hc
              · rename_i hg
                simp only [Bool.and_eq_true, lenR_eq] at hc
                obtain ⟨⟨⟨c1, c2⟩, c3⟩, c4⟩ := hc
                have c1 := Nat.eq_of_beq_eq_true c1
                subst c1
                have := hopn _ _ _ _ _ hg
                have c3 : o = m * 3 := Nat.eq_of_beq_eq_true c3
                have c4 := Nat.le_of_ble_eq_true c4
                simp only [Cp.cap]
                omega
              · cases hc
          subst hlen
          rw [V.conc, Cp.off_pos hn]
          refine .blk _ _ _ cs hcap fun i x hx j v hj => ?_
          have hj3 : j < 3 := by
            rcases Nat.lt_or_ge j 3 with h | h
            · exact h
            · rw [List.getElem?_eq_none (by rw [hg3]; exact h)] at hj; cases hj
          have hf := flatMap_get hg3 cs i j x hx hj3
          rw [← hcs, hj, concs_map, List.getElem?_map, Option.map_eq_some_iff] at hf
          obtain ⟨z, hz, rfl⟩ := hf
          have := hrow _ _ hr _ _ (h2 _ _ hz)
          rw [show S.b b + o + i * 3 + j = S.b b + (o + (i * 3 + j)) by omega]
          exact this
        · cases h
      · cases h
  · cases h

theorem HoldsL.mem {S : Si} {D : Dm} : ∀ {bs : List (Nat × Blk)} {L : List (Nat × Obj)} {b : Nat} {blk : Blk}, HoldsL S D bs L → (b, blk) ∈ bs → ∃ L3, Holds S D b blk L3 ∧ ∀ p ∈ L3, p ∈ L
  | [], _, _, _, _, h => by cases h
  | _ :: bs, _, b, blk, ⟨L1, L2, rfl, h1, h2⟩, h => by
    rcases List.mem_cons.1 h with rfl | h
    · exact ⟨L1, h1, fun p hp => List.mem_append_left _ hp⟩
    · obtain ⟨L3, g1, g2⟩ := HoldsL.mem h2 h
      exact ⟨L3, g1, fun p hp => List.mem_append_right _ (g2 p hp)⟩

/-- A block that is known as a whole; rows of cells lie beside it. -/
theorem Rel.whole [Strm] {S : Si} {H : Dm} {M : Mem} {F : List (Nat × Obj)} {w : World} {b : Nat} {ob : Ob} (h : Rel S H M F w) (hb : M.get b = some (.obj ob)) :
    ∃ L1 L2, Holds S (dom H M.nx) b (.obj ob) L1 ∧ SL w (L1 ++ (L2 ++ F)) ∧ (∀ blk' L1' w', Holds S (dom H M.nx) b blk' L1' → SL w' (L1' ++ (L2 ++ F)) → Rel S H (M.put b blk') F w') ∧
      (∀ b' cs, M.row b' = some cs → ∀ i v, cs[i]? = some v → Rd L2 ⟨S.s b', S.b b' + i, none⟩ (v.conc S)) ∧ ∀ b' z cs ty sz, M.get b' = some (.opn z cs ty sz) → cs.length ≤ S.k b' * sz := by
  have h0 := h
  obtain ⟨hH, L, h1, h2⟩ := h
  obtain ⟨rest, hp, hput⟩ := T.put_at hb
  obtain ⟨L', hL', L1, L2, rfl, hh1, hh2⟩ := h1.perm hp
  have at_ : ∀ b' blk', M.get b' = some blk' → (∀ o, blk' ≠ .obj o) → ∃ L3, Holds S (dom H M.nx) b' blk' L3 ∧ ∀ p ∈ L3, p ∈ L2 := fun b' blk' hb' hne => by
    obtain ⟨rest', hp', _⟩ := T.put_at hb'
    have hm : (b', blk') ∈ (b, Blk.obj ob) :: rest := hp.subset (hp'.symm.subset (.head _))
    rcases List.mem_cons.1 hm with he | hm
    · cases he; exact absurd rfl (hne ob)
    · exact HoldsL.mem hh2 hm
  refine ⟨L1, L2, hh1, h2.perm (by rw [← List.append_assoc]; exact hL'.append_right F), fun blk' L1' w' hh' h' => ?_, fun b' cs hr i v hv => ?_, fun b' z cs ty sz hg => ?_⟩
  · obtain ⟨L'', hL'', h''⟩ := HoldsL.perm (S := S) (n := dom H M.nx) (hput (some (b, blk'))).symm (L := L1' ++ L2) ⟨L1', L2, rfl, hh', hh2⟩
    exact ⟨hH, L'', h'', h'.perm (by rw [← List.append_assoc]; exact hL''.append_right F)⟩
  · unfold Mem.row at hr
    split at hr
    · rename_i cs' ty hg
      cases hr
      obtain ⟨L3, ⟨g1, g2, g3, fr, g4, rfl⟩, hs⟩ := at_ _ _ hg nofun
      refine Rd.sub hs ?_
      rw [g3, Nat.zero_add]
      exact Rd.mk (.head _) (by rw [concs_map]; simp [hv])
    · rename_i z cs' ty sz hg
      cases hr
      obtain ⟨L3, ⟨g1, g2, g3, pre, rest, fr, g4, g5, g6, rfl⟩, hs⟩ := at_ _ _ hg nofun
      refine Rd.sub hs (Rd.mk (.head _) ?_)
      have hlt : i < cs.length := by
        rcases Nat.lt_or_ge i cs.length with h | h
        · exact h
        · rw [List.getElem?_eq_none h] at hv; cases hv
      rw [List.getElem?_toArray, List.getElem?_append_right (by omega), ← g4, Nat.add_sub_cancel_left, List.getElem?_append_left (by rw [concs_len]; exact hlt), concs_map]
      simp [hv]
    · cases hr
  · obtain ⟨L3, ⟨g1, g2, g3, pre, rest, fr, g4, g5, g6, rfl⟩, hs⟩ := at_ _ _ hg nofun
    omega

/-- Changes of a shelf. -/
theorem pSet_ok [Strm] {args : List V} {M M' : Mem} {v : V} (h : pSet M args = some (v, M')) {S : Si} {H : Dm} {F : List (Nat × Obj)} {w : World} (hR : Rel S H M F w) :
    Does Tryz.prog 173 (concs S args).toArray w (Post S H M.nx F (some v) M') := by
  unfold pSet at h
  split at h
  · rename_i s u
    split at h
    · rename_i b x y cs hd hch
      split at h
      · rename_i t l hs
        split at h
        · rename_i l' n1 n2 hset
          replace h := bif_some h; obtain ⟨hb, h⟩ := h
          cases h
          simp only [Bool.and_eq_true, smB, allR_eq, lenR_eq, List.all_eq_true] at hb
          obtain ⟨⟨⟨b1, b2⟩, b3⟩, b4⟩ := hb
          have hsm : Sm (applyM l (changesM l cs) (freeM l 1024)) := ⟨fun y hy => Nat.le_of_ble_eq_true (b1 y hy), Nat.le_of_ble_eq_true b2⟩
          have hcl := Nat.le_of_ble_eq_true b3
          have hcs : ∀ c ∈ cs, c.key.length ≤ 100000 ∧ c.val.length ≤ 100000 := fun c hc => ⟨Nat.le_of_ble_eq_true (b4 c hc).1, Nat.le_of_ble_eq_true (b4 c hc).2⟩
          obtain ⟨L1, L2, ⟨g1, g2, st, A, LX, LY, g3, g4, g5, g6, g7, rfl⟩, g8, q3, q1, q2⟩ := Rel.whole hR (diskAt_spec hd)
          rcases ofShelf_spec hs with ⟨rfl, rfl⟩ | ⟨rfl, rfl⟩
          · -- the first one
            obtain ⟨m, o, k1, k2, rfl⟩ := g6
            have H1 : SL w ((S.s s, shO (S.s b) 0 1024 m 0) :: (m, o) :: (A ++ (LY ++ (L2 ++ F)))) := g8.perm (permOf fun a => by simp only [List.count_append, List.count_cons, List.count_nil]; omega)
            have hv : ElsA 3 (ChAt (LY ++ (L2 ++ F))) (u.conc S) cs := chIn_spec (fun b' cs' hr i v hv => (q1 b' cs' hr i v hv).sub fun p hp => List.mem_append_right _ (List.mem_append_left _ hp)) q2 hch
            obtain ⟨a1, a2, a3, a4, a5, a6, a7, a8, _, a10⟩ := set_up cs g4.up g4.q g4.arm g4.a g4.oa (by omega) (by omega)
            simp only [Option.map_some, Option.getD_some] at a1 a2 a3 a4 a5 a6 a7 a8 a10
            rw [hset] at a1 a2 a7
            have e1 : (concs S [V.ptr s 0, u]).toArray = #[.pointer (some ⟨S.s s, 0, none⟩), u.conc S] := by simp [concs, V.conc, k2]
            rw [e1]
            refine (set_spec (S.s s) (S.s b) 0 1024 m 0 o st l cs _ A g4.oa (by omega) (by omega) hsm (by omega) (by rw [g4.q]; simp) hcl hcs w _ hv k1 g3 H1).mono ?_
            rintro r w' ⟨m', o', A', rfl, ho', hA', H'⟩
            rw [a3] at H'
            rw [a2] at ho'
            refine ⟨S, .refl _ _, Nat.le_refl _, fun v hv => by cases hv; exact ⟨by rw [a1]; rfl, True.intro⟩, q3 _ _ w' ⟨g1, g2, _, A', [(S.s s, shO (S.s b) 0 1024 m' 0), (m', o')], LY, hA', ?_, g5, ⟨m', o', ho', k2, rfl⟩, g7, rfl⟩ ?_⟩
            · exact ⟨a4, a5, a8, a6.trans g4.len, a7, g4.b.same a6 (a10 1024 (.inr (by omega))) (fun y _ => a10 _ (.inr (by omega))), by have := set_ok (c := cs) g4.oa; simp only [Option.map_some, Option.getD_some] at this; rw [hset] at this; exact this, g4.ob, nofun, fun hy => by rw [a10 1024 (.inr (by omega))]; exact g4.nb hy⟩
            · exact H'.perm (permOf fun a => by simp only [List.count_append, List.count_cons, List.count_nil]; omega)
          · -- the second one
            obtain ⟨m, o, k1, k2, rfl⟩ := g7
            have H1 : SL w ((S.s s, shO (S.s b) 1024 1024 m 0) :: (m, o) :: (A ++ (LX ++ (L2 ++ F)))) := g8.perm (permOf fun a => by simp only [List.count_append, List.count_cons, List.count_nil]; omega)
            have hv : ElsA 3 (ChAt (LX ++ (L2 ++ F))) (u.conc S) cs := chIn_spec (fun b' cs' hr i v hv => (q1 b' cs' hr i v hv).sub fun p hp => List.mem_append_right _ (List.mem_append_left _ hp)) q2 hch
            obtain ⟨a1, a2, a3, a4, a5, a6, a7, a8, _, a10⟩ := set_up cs g4.up g4.q g4.arm g4.b g4.ob (by omega) (by omega)
            simp only [Option.map_some, Option.getD_some] at a1 a2 a3 a4 a5 a6 a7 a8 a10
            rw [hset] at a1 a2 a7
            have e1 : (concs S [V.ptr s 0, u]).toArray = #[.pointer (some ⟨S.s s, 0, none⟩), u.conc S] := by simp [concs, V.conc, k2]
            rw [e1]
            refine (set_spec (S.s s) (S.s b) 1024 1024 m 0 o st l cs _ A g4.ob (by omega) (by omega) hsm (by omega) (by rw [g4.q]; simp) hcl hcs w _ hv k1 g3 H1).mono ?_
            rintro r w' ⟨m', o', A', rfl, ho', hA', H'⟩
            rw [a3] at H'
            rw [a2] at ho'
            refine ⟨S, .refl _ _, Nat.le_refl _, fun v hv => by cases hv; exact ⟨by rw [a1]; rfl, True.intro⟩, q3 _ _ w' ⟨g1, g2, _, A', LX, [(S.s s, shO (S.s b) 1024 1024 m' 0), (m', o')], hA', ?_, g5, g6, ⟨m', o', ho', k2, rfl⟩, rfl⟩ ?_⟩
            · exact ⟨a4, a5, a8, a6.trans g4.len, g4.a.same a6 (a10 0 (.inl (by omega))) (fun y hy => a10 _ (.inl (by have := g4.oa.rng y hy; omega))), a7, g4.oa, by have := set_ok (c := cs) g4.ob; simp only [Option.map_some, Option.getD_some] at this; rw [hset] at this; exact this, fun hx => by rw [a10 0 (.inl (by omega))]; exact g4.na hx, nofun⟩
            · exact H'.perm (permOf fun a => by simp only [List.count_append, List.count_cons, List.count_nil]; omega)
        · cases h
      · cases h
    · cases h
  · cases h

end Go.Proofs.YtdppnaahdilkcaaGreatDoor.Kp
end

section
/-
  Layer 1's writer at numbers below 65536: numbers with a sign too, and sums.
-/
namespace Go.Proofs.YtdppnaahdilkcaaGreatDoor.V

def widN (n : Nat) : Nat := if n = 0 then 0 else if n < 256 then 1 else 2
def digN (n : Nat) : List UInt8 := if n = 0 then [] else if n < 256 then [UInt8.ofNat n] else [UInt8.ofNat (n / 256), UInt8.ofNat (n % 256)]
/-- A number from nought on, and one with a sign. -/
def encN (n : Nat) : List UInt8 := UInt8.ofNat (widN n) :: digN n
def encZ (n : Nat) : List UInt8 := UInt8.ofNat (128 + widN n) :: digN n

theorem digN_len (n : Nat) : (digN n).length = widN n := by
  unfold digN widN
  split
  · rfl
  · split <;> rfl
theorem widN_le (n : Nat) : widN n ≤ 2 := by
  unfold widN
  split
  · omega
  · split <;> omega

theorem wrap8 (n : Nat) : IntKind.u8.wrap (n : Int) = ((n % 256 : Nat) : Int) := by
  simp [IntKind.wrap, IntKind.bits, IntKind.signed]

end Go.Proofs.YtdppnaahdilkcaaGreatDoor.V
namespace Go.Proofs.YtdppnaahdilkcaaGreatDoor
open Go.Proofs.YtdppnaahdilkcaaGreatDoor.V

theorem len64N_spec [Strm] (n : Nat) (hn : n < 65536) (w : World) (F : List (Nat × Obj)) (H : SL w F) :
    Does Tryz.prog 99 #[.int .u64 (n : Int)] w fun r w' => (∃ m : Nat, r = .int .i64 (m : Int) ∧ m ≤ 16 ∧ (m + 7) / 8 = widN n) ∧ SL w' F := by
  by_cases h8 : n < 256
  · refine (len64_spec n h8 w F H).mono fun r w' h => ?_
    obtain ⟨⟨m, rfl, h1, h2⟩, H⟩ := h
    refine ⟨⟨m, rfl, ?_, ?_⟩, H⟩
    · by_cases h0 : n = 0
      · rw [h1 h0]; omega
      · have := h2 h0; omega
    · unfold widN
      by_cases h0 : n = 0
      · rw [h1 h0, if_pos h0]
      · have := h2 h0
        rw [if_neg h0, if_pos h8]
        omega
  obtain ⟨c, hc, _, h2⟩ := lenTab_spec (n := n / 256) (by omega)
  have h2' := h2 (by omega)
  have hb := c.toNat_lt
  refine Does.intro (args := [_]) (e := [(0, _)]) Tryz.func99 rfl Tryz.ntmps99 rfl rfl ?_
  refine .st ?_
  refine .st ?_
  refine RunsE.region ?_
  refine .au1 ?_
  refine .nil ?_
  refine .st ?_
  refine RunsE.region ?_
  refine .au1 ?_
  refine .ev (Ev.geq (r := false) rfl rfl (decide_eq_false (by omega))) rfl ?_
  refine .nil ?_
  refine .st ?_
  refine RunsE.region ?_
  refine .au1 ?_
  refine .ev (Ev.geq (r := false) rfl rfl (decide_eq_false (by omega))) rfl ?_
  refine .nil ?_
  refine .st ?_
  refine RunsE.region ?_
  refine .au1 ?_
  refine .ev (Ev.geq (r := true) rfl rfl (decide_eq_true (by omega))) rfl ?_
  refine .nil ?_
  refine .st ?_
  refine RunsE.region ?_
  refine .au1 ?_
  refine .ev (Ev.shr (c := ((n / 256 : Nat) : Int)) rfl rfl (by omega) (by rw [show (2 ^ (min (8 : Int).toNat IntKind.u64.bits) : Int) = 256 by decide, Int.fdiv_eq_ediv_of_nonneg _ (by decide)]; rfl)) rfl ?_
  refine .au1 ?_
  refine .nil ?_
  refine .st ?_
  refine RunsE.region ?_
  refine .au1 ?_
  refine .ev (Ev.add (c := 8) rfl rfl (by decide)) rfl ?_
  refine .au1 ?_
  refine .nil ?_
  refine .st ?_
  refine RunsE.region ?_
  refine .au2 ?_
  refine .ev (Ev.conv (c := ((n / 256 : Nat) : Int)) (k' := .u8) rfl (by kernel_rfl) (by kernel_rfl) (qu8 (by omega) (by omega))) rfl ?_
  refine .ev (Ev.ixStr (m := n / 256) (c := c) rfl rfl rfl (by kernel_rfl) hc) rfl ?_
  refine .ev (Ev.conv (c := (c.toNat : Int)) (k' := .i64) rfl (by kernel_rfl) (by kernel_rfl) (qi64 (by omega) (by omega))) rfl ?_
  refine .ev (Ev.add (c := ((8 + c.toNat : Nat) : Int)) rfl rfl (by rw [qi64 (by omega) (by omega)]; omega)) rfl ?_
  refine .au1 ?_
  refine .nil ?_
  refine .st ?_
  refine RunsE.ret1 Tryz.func99 rfl rfl ⟨⟨8 + c.toNat, rfl, by omega, ?_⟩, H⟩
  unfold widN
  rw [if_neg (by omega), if_neg h8]
  omega

theorem widthN_spec [Strm] (n : Nat) (hn : n < 65536) (w : World) (F : List (Nat × Obj)) (H : SL w F) :
    Does Tryz.prog 133 #[.int .u64 (n : Int)] w fun r w' => r = .int .i64 (widN n : Int) ∧ SL w' F := by
  refine Does.intro (args := [_]) (e := [(0, _)]) Tryz.func133 rfl Tryz.ntmps133 rfl rfl ?_
  refine .st ?_
  refine .st ?_
  refine RunsE.region ?_
  refine .au1 ?_
  refine .nil ?_
  refine .st ?_
  refine RunsE.region ?_
  refine .au1 ?_
  refine .ex (Ex.call rfl Tryz.call99 (len64N_spec n hn w _ H)) rfl ?_; (try clear H); rintro _ w ⟨⟨m, rfl, hm, hw⟩, H⟩
  refine .ev (Ev.add (c := ((m + 7 : Nat) : Int)) rfl rfl (by rw [qi64 (by omega) (by omega)]; omega)) rfl ?_
  refine .ev (Ev.quo (c := (((m + 7) / 8 : Nat) : Int)) rfl rfl (by omega) (by rw [show ((m + 7 : Nat) : Int).tdiv 8 = (((m + 7) / 8 : Nat) : Int) from qquo _ 8]; exact qi64 (by omega) (by omega))) rfl ?_
  refine .au1 ?_
  refine .nil ?_
  refine .st ?_
  exact RunsE.ret1 Tryz.func133 rfl rfl ⟨by rw [hw], H⟩

theorem highN_spec [Strm] (n : Nat) (hn : n < 65536) (v : Value) (bs : List UInt8) (B : List (Nat × Obj)) (hl : bs.length ≤ 1000000) (w : World) (F : List (Nat × Obj)) (hs : Slc gB 1 5 v bs B) (H : SL w (B ++ F)) :
    Does Tryz.prog 132 #[v, .int .u64 (n : Int), .int .u8 0] w fun r w' => ∃ B', Slc gB 1 5 r (bs ++ digN n) B' ∧ SL w' (B' ++ F) := by
  have hw2 := widN_le n
  refine Does.intro (args := [_, _, _]) (e := [(0, _), (1, _), (2, _)]) Tryz.func132 rfl Tryz.ntmps132 rfl rfl ?_
  refine .st ?_
  refine .st ?_
  refine RunsE.region ?_
  refine .au1 ?_
  refine .nil ?_
  refine .st ?_
  refine RunsE.region ?_
  refine .au1 ?_
  refine .ex (Ex.call rfl Tryz.call133 (widthN_spec n hn w _ H)) rfl ?_; (try clear H); rintro _ w ⟨rfl, H⟩
  refine .ev (Ev.sub (c := ((widN n : Int) - 1)) rfl rfl (qi64 (by omega) (by omega))) rfl ?_
  refine .au1 ?_
  refine .nil ?_
  repeat refine RunsE.seq ?_
  refine RunsE.join (fun v : Value => [(0, v)]) (fun v w => ∃ B', Slc gB 1 5 v (bs ++ digN n) B' ∧ SL w (B' ++ F)) (fun next => ?_) ?_
  · refine RunsE.block ?_
    refine RunsE.loop (fun s : Value × Nat => [(0, s.1), (1, .int .u64 (n : Int)), (2, .int .u8 0), (7, .int .i64 ((s.2 : Int) - 1))])
      (fun s w => s.2 ≤ widN n ∧ ∃ B', Slc gB 1 5 s.1 (bs ++ (digN n).take (widN n - s.2)) B' ∧ SL w (B' ++ F)) (fun s => s.2) (v, widN n) ⟨rfl, rfl, rfl, rfl, trivial⟩ ⟨by simp, B, by simpa using hs, H⟩ ?_
    clear H hs
    rintro ⟨v, m⟩ w ⟨h1, B, hs, H⟩ nextL
    simp only at h1 hs
    by_cases hm : m = 0
    · subst hm
      refine .st ?_
      refine RunsE.region ?_
      refine .au1 ?_
      refine .ev (Ev.geq (r := false) rfl rfl (decide_eq_false (by omega))) rfl ?_
      refine .nil ?_
      repeat refine RunsE.seq ?_
      refine RunsE.no rfl ?_
      refine RunsE.exit rfl ?_
      exact next v _ _ ⟨B, by rw [Nat.sub_zero, ← digN_len, List.take_length] at hs; exact hs, H⟩ ⟨rfl, trivial⟩
    clear next
    have hlen : (bs ++ (digN n).take (widN n - m)).length ≤ 1000002 := by
      rw [List.length_append, List.length_take, digN_len]
      omega
    obtain rfl | rfl : m = 1 ∨ m = 2 := by omega
    · have e1 : (digN n).take (widN n - 0) = (digN n).take (widN n - 1) ++ [UInt8.ofNat (n % 256)] := by
        unfold digN widN at *
        by_cases h0 : n = 0
        · simp [h0] at h1
        · by_cases h8 : n < 256
          · simp [h0, h8, Nat.mod_eq_of_lt h8]
          · simp [h0, h8]
      refine .st ?_
      refine RunsE.region ?_
      refine .au1 ?_
      refine .ev (Ev.geq (r := true) rfl rfl (decide_eq_true (by omega))) rfl ?_
      refine .nil ?_
      refine .st ?_
      refine .st ?_
      refine RunsE.region ?_
      refine .au3 ?_
      refine .ev (Ev.mul (c := 0) rfl rfl (by dsimp only; decide)) rfl ?_
      refine .ev (Ev.shr (c := (n : Int)) rfl rfl (by omega) (by rw [show (2 ^ (min (0 : Int).toNat IntKind.u64.bits) : Int) = 1 by decide]; rw [Int.fdiv_one])) rfl ?_
      refine .ev (Ev.conv (c := ((n % 256 : Nat) : Int)) (k' := .u8) rfl (by kernel_rfl) (by kernel_rfl) (wrap8 n)) rfl ?_
      refine .au1 ?_
      refine .ev (Ev.xor (c := ((UInt8.ofNat (n % 256)).toNat : Int)) rfl rfl (xor0 (n % 256) (by omega))) rfl ?_
      refine .ex (Ex.buildSl (T := 5) (zv := .int .u8 0) H rfl (by kernel_rfl) (by kernel_rfl) (by simp [Value.oneCell']) rfl (by omega) (by omega)) rfl ?_; (try clear H); rintro _ w ⟨b23, rfl, H⟩
      refine .ex (Ex.append (g := gB) (by_ := 1) (zv := .int .u8 0) (ys := [UInt8.ofNat (n % 256)]) H.drop rfl rfl hs (Src.row0 H m0 rfl) (fun _ => rfl) (by simp [Value.oneCell']) (by kernel_rfl) (by kernel_rfl) (by kernel_rfl) (by kernel_rfl) rfl (by simp only [List.length_singleton]; omega) (by simp only [List.length_singleton]; omega)) rfl ?_; (try clear H); rintro v' w ⟨B, hs, H⟩
      refine .au1 ?_
      refine .nil ?_
      refine .st ?_
      refine RunsE.region ?_
      refine .au1 ?_
      refine .ev (Ev.sub (c := (((0 : Nat) : Int) - 1)) rfl rfl (by dsimp only; decide)) rfl ?_
      refine .au1 ?_
      refine .nil ?_
      exact nextL (v', 0) _ _ (by simp) ⟨by simp, B, by simp only; rw [e1, ← List.append_assoc]; exact hs, H⟩ ⟨rfl, rfl, rfl, rfl, trivial⟩
    · have h8 : ¬ n < 256 ∧ n ≠ 0 := by
        unfold widN at h1
        by_cases h0 : n = 0
        · simp [h0] at h1
        · by_cases h8 : n < 256
          · simp [h0, h8] at h1
          · exact ⟨h8, h0⟩
      have hwn : widN n = 2 := by unfold widN; rw [if_neg h8.2, if_neg h8.1]
      have e1 : (digN n).take (widN n - 1) = (digN n).take (widN n - 2) ++ [UInt8.ofNat (n / 256)] := by
        rw [hwn]
        unfold digN
        rw [if_neg h8.2, if_neg h8.1]
        rfl
      refine .st ?_
      refine RunsE.region ?_
      refine .au1 ?_
      refine .ev (Ev.geq (r := true) rfl rfl (decide_eq_true (by omega))) rfl ?_
      refine .nil ?_
      refine .st ?_
      refine .st ?_
      refine RunsE.region ?_
      refine .au3 ?_
      refine .ev (Ev.mul (c := 8) rfl rfl (by dsimp only; decide)) rfl ?_
      refine .ev (Ev.shr (c := ((n / 256 : Nat) : Int)) rfl rfl (by omega) (by rw [show (2 ^ (min (8 : Int).toNat IntKind.u64.bits) : Int) = 256 by decide, Int.fdiv_eq_ediv_of_nonneg _ (by decide)]; rfl)) rfl ?_
      refine .ev (Ev.conv (c := ((n / 256 : Nat) : Int)) (k' := .u8) rfl (by kernel_rfl) (by kernel_rfl) (qu8 (by omega) (by omega))) rfl ?_
      refine .au1 ?_
      refine .ev (Ev.xor (c := ((UInt8.ofNat (n / 256)).toNat : Int)) rfl rfl (xor0 (n / 256) (by omega))) rfl ?_
      refine .ex (Ex.buildSl (T := 5) (zv := .int .u8 0) H rfl (by kernel_rfl) (by kernel_rfl) (by simp [Value.oneCell']) rfl (by omega) (by omega)) rfl ?_; (try clear H); rintro _ w ⟨b23, rfl, H⟩
      refine .ex (Ex.append (g := gB) (by_ := 1) (zv := .int .u8 0) (ys := [UInt8.ofNat (n / 256)]) H.drop rfl rfl hs (Src.row0 H m0 rfl) (fun _ => rfl) (by simp [Value.oneCell']) (by kernel_rfl) (by kernel_rfl) (by kernel_rfl) (by kernel_rfl) rfl (by simp only [List.length_singleton]; omega) (by simp only [List.length_singleton]; omega)) rfl ?_; (try clear H); rintro v' w ⟨B, hs, H⟩
      refine .au1 ?_
      refine .nil ?_
      refine .st ?_
      refine RunsE.region ?_
      refine .au1 ?_
      refine .ev (Ev.sub (c := (((1 : Nat) : Int) - 1)) rfl rfl (by dsimp only; decide)) rfl ?_
      refine .au1 ?_
      refine .nil ?_
      exact nextL (v', 1) _ _ (by simp) ⟨by simp only; omega, B, by simp only; rw [e1, ← List.append_assoc]; exact hs, H⟩ ⟨rfl, rfl, rfl, rfl, trivial⟩
  · clear H hs
    rintro v w ⟨B, hs, H⟩
    refine .st ?_
    refine RunsE.region ?_
    refine .au2 ?_
    refine .nil ?_
    refine .st ?_
    exact RunsE.ret1 Tryz.func132 rfl rfl ⟨B, hs, H⟩

theorem wuintN_spec [Strm] (n : Nat) (hn : n < 65536) (b : Nat) (bs : List UInt8) (hl : bs.length ≤ 100000) (A : List (Nat × Obj)) (w : World) (F : List (Nat × Obj)) (hA : WrH b bs A) (H : SL w (A ++ F)) :
    Does Tryz.prog 84 #[.pointer (some ⟨b, 0, none⟩), .int .u64 (n : Int)] w fun r w' => ∃ A', r = .pointer (some ⟨b, 0, none⟩) ∧ WrH b (bs ++ encN n) A' ∧ SL w' (A' ++ F) := by
  have hw2 := widN_le n
  obtain ⟨v, B, hs⟩ := hA
  rw [List.cons_append] at H
  refine Does.intro (args := [_, _]) (e := [(0, _), (1, _)]) Tryz.func84 rfl Tryz.ntmps84 rfl rfl ?_
  refine .st ?_
  refine .st ?_
  refine RunsE.region ?_
  refine .au1 ?_
  refine .nil ?_
  refine .st ?_
  refine RunsE.region ?_
  refine .au1 ?_
  refine .ev (Ev.ptrNilNe (el := 231) rfl rfl (by kernel_rfl)) rfl ?_
  refine .nil ?_
  refine .st ?_
  refine .st ?_
  refine RunsE.drawS H [9, 11, 14] (by kernel_rfl) ?_; (try clear H); intro w H
  refine .tu 0 rfl (fun w => Ev.move rfl) ?_
  refine .tk 1 rfl H (fun w H => Ev.move rfl) ?_
  refine .tk 2 rfl H (fun w H => Ev.nilCheck rfl) ?_
  refine .tk 3 rfl H (fun w H => Ev.fieldAddr (o := 0) rfl (by kernel_rfl)) ?_
  refine .tk 4 rfl H (fun w H => Ev.ld H) ?_
  refine .tk 5 rfl H (fun w H => Ev.move rfl) ?_
  refine .tu 10 rfl (fun w => Ev.move rfl) ?_
  refine OpsD.one 6 (by kernel_rfl) (StepD.ex rfl (Ex.call rfl Tryz.call133 (widthN_spec n hn w _ H)) rfl ?_); (try clear H); rintro _ w ⟨rfl, H⟩; refine ⟨(by first | exact H | exact H.drop | exact H.drop.drop | exact H.dropL | exact H.drop.dropL | exact H.dropL.drop | exact H.dropL.dropL | exact H.dropMid | exact H.dropL.dropL.dropL | exact H.dropL.dropL.dropL.dropL), ?_⟩
  refine .tk 7 rfl (by first | exact H | exact H.drop | exact H.drop.drop | exact H.dropL | exact H.drop.dropL | exact H.dropL.drop | exact H.dropL.dropL | exact H.dropMid | exact H.dropL.dropL.dropL | exact H.dropL.dropL.dropL.dropL) (fun w H => Ev.conv (c := ((UInt8.ofNat (widN n)).toNat : Int)) (k' := .u8) rfl (by kernel_rfl) (by kernel_rfl) (by rw [wrap8]; simp)) ?_
  refine OpsD.one 8 (by kernel_rfl) (StepD.ex rfl (Ex.buildSl (T := 5) (zv := .int .u8 0) H rfl (by kernel_rfl) (by kernel_rfl) (by simp [Value.oneCell']) rfl (by omega) (by omega)) rfl ?_); (try clear H); rintro _ w ⟨b15, rfl, H⟩; refine ⟨(by first | exact H | exact H.drop | exact H.drop.drop | exact H.dropL | exact H.drop.dropL | exact H.dropL.drop | exact H.dropL.dropL | exact H.dropMid | exact H.dropL.dropL.dropL | exact H.dropL.dropL.dropL.dropL), ?_⟩
  refine OpsD.one 9 (by kernel_rfl) (StepD.exT rfl rfl (Ex.append (g := gB) (by_ := 1) (zv := .int .u8 0) (ys := [UInt8.ofNat (widN n)]) H.drop.mid rfl rfl hs (Src.row0 H m0 rfl) (fun _ => rfl) (by simp [Value.oneCell']) (by kernel_rfl) (by kernel_rfl) (by kernel_rfl) (by kernel_rfl) rfl (by simp only [List.length_singleton]; omega) (by simp only [List.length_singleton]; omega)) rfl ?_); (try clear H); rintro v' w ⟨B, hs, H⟩
  refine OpsD.one 11 (by kernel_rfl) (StepD.exT rfl rfl (Ex.call rfl Tryz.call132 (highN_spec n hn _ _ B (by simp; omega) w _ hs H)) rfl ?_); (try clear H); rintro v' w ⟨B, hs, H⟩
  refine .tu 12 rfl (fun w => Ev.nilCheck rfl) ?_
  refine .tu 13 rfl (fun w => Ev.fieldAddr (o := 0) rfl (by kernel_rfl)) ?_
  refine OpsD.one 14 (by kernel_rfl) (StepD.exnT rfl rfl (Ex.store1 H.unmid rfl rfl (by kernel_rfl) (by obtain ⟨_, _, rfl⟩ := hs.len; rfl) u0 (by simp) (Thaw.zero _ _) rfl) ?_); (try clear H); intro _ w H
  refine OpsD.done (by kernel_rfl) ?_
  refine .st ?_
  refine RunsE.region ?_
  refine .au2 ?_
  refine .nil ?_
  refine .st ?_
  exact RunsE.ret1 Tryz.func84 rfl rfl ⟨_, rfl, .mk v' B (by unfold encN; rw [List.append_assoc] at hs; exact hs), H⟩

theorem wintN_spec [Strm] (n : Nat) (hn : n < 65536) (b : Nat) (bs : List UInt8) (hl : bs.length ≤ 100000) (A : List (Nat × Obj)) (w : World) (F : List (Nat × Obj)) (hA : WrH b bs A) (H : SL w (A ++ F)) :
    Does Tryz.prog 164 #[.pointer (some ⟨b, 0, none⟩), .int .i64 (n : Int)] w fun r w' => ∃ A', r = .pointer (some ⟨b, 0, none⟩) ∧ WrH b (bs ++ encZ n) A' ∧ SL w' (A' ++ F) := by
  have hw2 := widN_le n
  obtain ⟨v, B, hs⟩ := hA
  rw [List.cons_append] at H
  refine Does.intro (args := [_, _]) (e := [(0, _), (1, _)]) Tryz.func164 rfl Tryz.ntmps164 rfl rfl ?_
  refine .st ?_
  refine .st ?_
  refine RunsE.region ?_
  refine .au1 ?_
  refine .nil ?_
  refine .st ?_
  refine RunsE.region ?_
  refine .au1 ?_
  refine .ev (Ev.ptrNilEq (el := 231) rfl rfl (by kernel_rfl)) rfl ?_
  refine .au1 ?_
  refine .nil ?_
  repeat refine RunsE.seq ?_
  refine RunsE.no rfl ?_
  refine .st ?_
  refine RunsE.region ?_
  refine .au1 ?_
  refine .ev (Ev.lss (r := false) rfl rfl (decide_eq_false (by omega))) rfl ?_
  refine .au1 ?_
  refine .nil ?_
  repeat refine RunsE.seq ?_
  refine RunsE.no rfl ?_
  refine .st ?_
  refine RunsE.region ?_
  refine .au1 ?_
  refine .ev (Ev.conv (c := (n : Int)) (k' := .u64) rfl (by kernel_rfl) (by kernel_rfl) (qu64 (by omega) (by omega))) rfl ?_
  refine .au1 ?_
  refine .nil ?_
  refine .st ?_
  refine RunsE.drawS H [10, 12, 15] (by kernel_rfl) ?_; (try clear H); intro w H
  refine .tu 0 rfl (fun w => Ev.move rfl) ?_
  refine .tk 1 rfl H (fun w H => Ev.move rfl) ?_
  refine .tk 2 rfl H (fun w H => Ev.nilCheck rfl) ?_
  refine .tk 3 rfl H (fun w H => Ev.fieldAddr (o := 0) rfl (by kernel_rfl)) ?_
  refine .tk 4 rfl H (fun w H => Ev.ld H) ?_
  refine .tk 5 rfl H (fun w H => Ev.move rfl) ?_
  refine .tu 11 rfl (fun w => Ev.move rfl) ?_
  refine OpsD.one 6 (by kernel_rfl) (StepD.ex rfl (Ex.call rfl Tryz.call133 (widthN_spec n hn w _ H)) rfl ?_); (try clear H); rintro _ w ⟨rfl, H⟩; refine ⟨(by first | exact H | exact H.drop | exact H.drop.drop | exact H.dropL | exact H.drop.dropL | exact H.dropL.drop | exact H.dropL.dropL | exact H.dropMid | exact H.dropL.dropL.dropL | exact H.dropL.dropL.dropL.dropL), ?_⟩
  refine .tk 7 rfl (by first | exact H | exact H.drop | exact H.drop.drop | exact H.dropL | exact H.drop.dropL | exact H.dropL.drop | exact H.dropL.dropL | exact H.dropMid | exact H.dropL.dropL.dropL | exact H.dropL.dropL.dropL.dropL) (fun w H => Ev.add (c := ((128 + widN n : Nat) : Int)) rfl rfl (by rw [qi64 (by omega) (by omega)]; omega)) ?_
  refine .tk 8 rfl (by first | exact H | exact H.drop | exact H.drop.drop | exact H.dropL | exact H.drop.dropL | exact H.dropL.drop | exact H.dropL.dropL | exact H.dropMid | exact H.dropL.dropL.dropL | exact H.dropL.dropL.dropL.dropL) (fun w H => Ev.conv (c := ((UInt8.ofNat (128 + widN n)).toNat : Int)) (k' := .u8) rfl (by kernel_rfl) (by kernel_rfl) (by rw [wrap8]; simp)) ?_
  refine OpsD.one 9 (by kernel_rfl) (StepD.ex rfl (Ex.buildSl (T := 5) (zv := .int .u8 0) H rfl (by kernel_rfl) (by kernel_rfl) (by simp [Value.oneCell']) rfl (by omega) (by omega)) rfl ?_); (try clear H); rintro _ w ⟨b18, rfl, H⟩; refine ⟨(by first | exact H | exact H.drop | exact H.drop.drop | exact H.dropL | exact H.drop.dropL | exact H.dropL.drop | exact H.dropL.dropL | exact H.dropMid | exact H.dropL.dropL.dropL | exact H.dropL.dropL.dropL.dropL), ?_⟩
  refine OpsD.one 10 (by kernel_rfl) (StepD.exT rfl rfl (Ex.append (g := gB) (by_ := 1) (zv := .int .u8 0) (ys := [UInt8.ofNat (128 + widN n)]) H.drop.mid rfl rfl hs (Src.row0 H m0 rfl) (fun _ => rfl) (by simp [Value.oneCell']) (by kernel_rfl) (by kernel_rfl) (by kernel_rfl) (by kernel_rfl) rfl (by simp only [List.length_singleton]; omega) (by simp only [List.length_singleton]; omega)) rfl ?_); (try clear H); rintro v' w ⟨B, hs, H⟩
  refine OpsD.one 12 (by kernel_rfl) (StepD.exT rfl rfl (Ex.call rfl Tryz.call132 (highN_spec n hn _ _ B (by simp; omega) w _ hs H)) rfl ?_); (try clear H); rintro v' w ⟨B, hs, H⟩
  refine .tu 13 rfl (fun w => Ev.nilCheck rfl) ?_
  refine .tu 14 rfl (fun w => Ev.fieldAddr (o := 0) rfl (by kernel_rfl)) ?_
  refine OpsD.one 15 (by kernel_rfl) (StepD.exnT rfl rfl (Ex.store1 H.unmid rfl rfl (by kernel_rfl) (by obtain ⟨_, _, rfl⟩ := hs.len; rfl) u0 (by simp) (Thaw.zero _ _) rfl) ?_); (try clear H); intro _ w H
  refine OpsD.done (by kernel_rfl) ?_
  refine .st ?_
  refine RunsE.region ?_
  refine .au2 ?_
  refine .nil ?_
  refine .st ?_
  exact RunsE.ret1 Tryz.func164 rfl rfl ⟨_, rfl, .mk v' B (by unfold encZ; rw [List.append_assoc] at hs; exact hs), H⟩

end Go.Proofs.YtdppnaahdilkcaaGreatDoor
end

section
/-
  A way to run code by reckoning (XXI): contracts that hold: a shelf's keys, how wide a number is; all of them.
-/
namespace Go.Proofs.YtdppnaahdilkcaaGreatDoor.Kp
open Go.Proofs.YtdppnaahdilkcaaGreatDoor.V
open Go.K
open Go.Proofs.YtdppnaahdilkcaaGreatDoor.Bl

theorem widK_eq (n : Nat) : (bif Nat.beq n 0 then 0 else bif Nat.blt n 256 then 1 else 2) = widN n := by
  unfold widN
  cases h0 : Nat.beq n 0 with
  | true => rw [if_pos (Nat.eq_of_beq_eq_true h0)]; rfl
  | false =>
    rw [if_neg (Nat.ne_of_beq_eq_false h0), cond_false]
    cases h1 : Nat.blt n 256 with
    | true => rw [if_pos (show n < 256 from Nat.le_of_ble_eq_true h1)]; rfl
    | false => rw [if_neg (fun h : n < 256 => by rw [show Nat.blt n 256 = true from Nat.ble_eq_true_of_le h] at h1; cases h1)]; rfl

/-- How wide a number is. -/
theorem pWidth_ok [Strm] {args : List V} {M M' : Mem} {v : V} (h : pWidth M args = some (v, M')) {S : Si} {H : Dm} {F : List (Nat × Obj)} {w : World} (hR : Rel S H M F w) :
    Does Tryz.prog 133 (concs S args).toArray w (Post S H M.nx F (some v) M') := by
  unfold pWidth at h
  split at h
  · rename_i n
    replace h := bif_some h; obtain ⟨hb, h⟩ := h
    cases h
    obtain ⟨L, h1, h2⟩ := hR.beside
    refine (widthN_spec n (Nat.le_of_ble_eq_true hb) w _ h1).mono ?_
    rintro r w' ⟨rfl, H'⟩
    refine ⟨S, .refl _ _, Nat.le_refl _, fun v hv => ?_, h2 _ _ H'⟩
    cases hv
    exact ⟨by rw [widK_eq]; rfl, True.intro⟩
  · cases h

/-- A block, as it is told; memory is as it was, whatever lies beside it. -/
theorem Rel.same2 [Strm] {S : Si} {H : Dm} {M : Mem} {F : List (Nat × Obj)} {w : World} {b : Nat} {blk : Blk} (h : Rel S H M F w) (hb : M.get b = some blk) :
    ∃ L1 L2, Holds S (dom H M.nx) b blk L1 ∧ SL w (L1 ++ (L2 ++ F)) ∧ ∀ F' w', SL w' (L1 ++ (L2 ++ F')) → Rel S H M F' w' := by
  obtain ⟨hH, L, h1, h2⟩ := h
  obtain ⟨rest, hp, _⟩ := T.put_at hb
  obtain ⟨L', hL', L1, L2, rfl, hh1, _⟩ := h1.perm hp
  refine ⟨L1, L2, hh1, h2.perm (by rw [← List.append_assoc]; exact hL'.append_right F), fun F' w' h' => ⟨hH, L, h1, h'.perm ?_⟩⟩
  rw [← List.append_assoc]
  exact (hL'.append_right F').symm

theorem keys_conc (S : Si) (l : List Lf) : concs S (l.map fun y => V.str y.key) = (l.map Lf.key).flatMap gT := by
  induction l with
  | nil => rfl
  | cons y r ih => simp only [List.map_cons, concs, ih, List.flatMap_cons, V.conc]; rfl

theorem keys_oks (n : Dm) (l : List Lf) : oks n (l.map fun y => V.str y.key) := oks_iff.2 fun v hv => by
  obtain ⟨y, _, rfl⟩ := List.mem_map.1 hv
  exact True.intro

/-- A shelf's keys. -/
theorem pKeys_ok [Strm] {args : List V} {M M' : Mem} {v : V} (h : pKeys 9 M args = some (v, M')) {S : Si} {H : Dm} {F : List (Nat × Obj)} {w : World} (hR : Rel S H M F w) :
    Does Tryz.prog 247 (concs S args).toArray w (Post S H M.nx F (some v) M') := by
  unfold pKeys at h
  split at h
  · rename_i s
    split at h
    · rename_i b x y hd
      split at h
      · cases h
      · rename_i t l hs
        obtain ⟨L1, L2, ⟨g1, g2, st, A, LX, LY, g3, g4, g5, g6, g7, rfl⟩, g8, g9⟩ := Rel.same2 hR (diskAt_spec hd)
        obtain ⟨m, o, h1, h2, h3, h4⟩ := shelf_in (A := A) hs g6 g7
        have hok : OkL l 1024 := by
          rcases ofShelf_spec hs with ⟨_, rfl⟩ | ⟨_, rfl⟩
          · exact g4.oa
          · exact g4.ob
        have hll := (free_len hok).2
        have e1 : (concs S [V.ptr s 0]).toArray = #[.pointer (some ⟨S.s s, 0, none⟩)] := by simp [concs, V.conc, h2]
        rw [e1]
        refine (keys_spec (S.s s) (S.s b) _ 1024 m 0 o l (by omega) hok.srt w _ (List.mem_append_left _ h3) (List.mem_append_left _ h4) h1 g8).mono ?_
        rintro r w' ⟨B, hnl, hsl, H'⟩
        cases hn : Nat.beq l.length 0 with
        | true =>
          rw [hn] at h
          cases h
          obtain rfl : l = [] := List.eq_nil_of_length_eq_zero (Nat.eq_of_beq_eq_true hn)
          refine ⟨S, .refl _ _, Nat.le_refl _, fun v hv => ?_, g9 _ _ H'.dropL⟩
          cases hv
          exact ⟨hnl rfl, True.intro⟩
        | false =>
          rw [hn] at h
          cases h
          have hn := Nat.ne_of_beq_eq_false hn
          generalize hks : l.map Lf.key = ks at hsl
          cases hsl with
          | nil => exact absurd (by simpa using congrArg List.length hks) hn
          | blk b' _ cap spare fr k1 k2 k3 =>
            subst hks
            rw [List.length_map] at k1 k2 ⊢
            have h3' : Rel S H M ([(b', .cells (((l.map Lf.key).flatMap gT) ++ spare).toArray 9 fr)] ++ F) w' :=
              g9 _ _ (H'.perm (permOf fun a => by simp only [List.count_append]; omega))
            have ha : Agree (dom H M.nx) S (S.add M.nx b' 0 cap) := S.add_agree b' 0 cap (dom_not H M.nx)
            have hdm : dom H (M.nx + 1) M.nx := hR.new_dom (k := 0) (by omega)
            refine ⟨S.add M.nx b' 0 cap, ha, Nat.le_add_right _ _, fun v hv => ?_, Rel.new h3' ha ⟨hdm, keys_oks _ l, fun _ => by simp [Si.add], [], spare, fr, by simp [Si.add], ?_, by simpa [Si.add] using k3, ?_⟩⟩
            · cases hv
              refine ⟨?_, hdm⟩
              simp [V.conc, Cp.off, Cp.cap, Si.add, hn]
            · simp only [List.length_map, Si.add, if_true]; omega
            · simp [Si.add, keys_conc]
    · cases h
  · cases h

/-- What is told by contracts. -/
noncomputable def prims : CallF := fun f args M =>
  bif Nat.beq f 133 then pWidth M args else
  bif Nat.beq f 150 then pSum M args else
  bif Nat.beq f 211 then pGet M args else
  bif Nat.beq f 173 then pSet M args else
  bif Nat.beq f 247 then pKeys 9 M args else
  bif Nat.beq f 194 then pOpen M args else
  bif Nat.beq f 111 then pNew M args else
  bif Nat.beq f 193 then pPages M args else none

theorem bif_case {α : Type} {c : Bool} {a b : Option α} {r : α} (h : (bif c then a else b) = some r) : c = true ∧ a = some r ∨ b = some r := by
  cases c with
  | true => exact .inl ⟨rfl, h⟩
  | false => exact .inr h

theorem prims_ok [Strm] : PrimOk Tryz.prog prims := fun f args M v M' h S H F w hG hk hR => by
  unfold prims at h
  rcases bif_case h with ⟨hb, h⟩ | h
  · rw [Nat.eq_of_beq_eq_true hb]; exact pWidth_ok h hR
  rcases bif_case h with ⟨hb, h⟩ | h
  · rw [Nat.eq_of_beq_eq_true hb]; exact pSum_ok (fun _ h => h) h hG hR
  rcases bif_case h with ⟨hb, h⟩ | h
  · rw [Nat.eq_of_beq_eq_true hb]; exact pGet_ok h hR
  rcases bif_case h with ⟨hb, h⟩ | h
  · rw [Nat.eq_of_beq_eq_true hb]; exact pSet_ok h hR
  rcases bif_case h with ⟨hb, h⟩ | h
  · rw [Nat.eq_of_beq_eq_true hb]; exact pKeys_ok h hR
  rcases bif_case h with ⟨hb, h⟩ | h
  · rw [Nat.eq_of_beq_eq_true hb]; exact pOpen_ok h hR
  rcases bif_case h with ⟨hb, h⟩ | h
  · rw [Nat.eq_of_beq_eq_true hb]; exact pNew_ok h hR
  rcases bif_case h with ⟨hb, h⟩ | h
  · rw [Nat.eq_of_beq_eq_true hb]; exact pPages_ok h hR
  cases h

end Go.Proofs.YtdppnaahdilkcaaGreatDoor.Kp
end

section
/-
  What the laws of the top take as told: a number brought into bounds; that 'sure' is so.
-/
namespace Go.Proofs.YtdppnaahdilkcaaGreatDoor.Kp
open Go.Proofs.YtdppnaahdilkcaaGreatDoor.V
open Go.K
open Go.Proofs.YtdppnaahdilkcaaGreatDoor.Bl

theorem wit_val (a : Int) (n : Nat) : ((a % 18446744073709551616).tmod (n : Int)) = (((a % 18446744073709551616).toNat % n : Nat) : Int) := by
  have h : 0 ≤ a % 18446744073709551616 := by omega
  rw [Int.tmod_eq_emod_of_nonneg h, Int.natCast_emod, Int.toNat_of_nonneg h]

theorem u64_wrap (a : Int) : IntKind.u64.wrap a = a % 18446744073709551616 := by
  simp only [IntKind.wrap, IntKind.bits, IntKind.signed, Bool.false_and, Bool.false_eq_true, if_false]; rfl

theorem i64_u64 (m : Nat) : (IntKind.i64.wrap (m : Int) % 18446744073709551616).toNat = m % 18446744073709551616 := by
  simp only [IntKind.wrap, IntKind.bits, IntKind.signed, Bool.true_and]
  split
  · omega
  · omega

/-- A number brought into bounds. -/
theorem within_spec [Strm] (a : Int) (n : Nat) (h0 : 0 < n) (h1 : n ≤ 1000) (w : World) (F : List (Nat × Obj)) (H : SL w F) :
    Does Tryz.prog 4 #[.int .i64 a, .int .i64 (n : Int)] w fun r w' => r = .int .i64 (((a % 18446744073709551616).toNat % n : Nat) : Int) ∧ SL w' F := by
  have hlt : (a % 18446744073709551616).toNat % n < n := Nat.mod_lt _ h0
  refine Does.intro (args := [_, _]) (e := [(0, _), (1, _)]) Tryz.func4 rfl Tryz.ntmps4 rfl rfl ?_
  refine .st ?_
  refine .st ?_
  refine RunsE.region ?_
  refine .au1 ?_
  refine .nil ?_
  refine .st ?_
  refine RunsE.region ?_
  refine .au1 ?_
  refine .ev (Ev.conv (k' := .u64) (c := a % 18446744073709551616) rfl (by kernel_rfl) (by kernel_rfl) (u64_wrap a)) rfl ?_
  refine .au1 ?_
  refine .ev (Ev.conv (k' := .u64) (c := (n : Int)) rfl (by kernel_rfl) (by kernel_rfl) (qu64 (by omega) (by omega))) rfl ?_
  refine .ev (Ev.rem rfl rfl (by omega) (wit_val a n)) rfl ?_
  refine .ev (Ev.conv (k' := .i64) (c := (((a % 18446744073709551616).toNat % n : Nat) : Int)) rfl (by kernel_rfl) (by kernel_rfl) (qi64 (by omega) (by omega))) rfl ?_
  refine .au1 ?_
  refine .nil ?_
  refine .st ?_
  exact RunsE.ret1 Tryz.func4 rfl rfl ⟨rfl, H⟩

/-- A number brought into bounds, where it is any. -/
noncomputable def pWithin (M : Mem) : List V → Option (V × Mem)
  | [.any, .int .i64 (.ofNat 300)] => some (.lin 1 0 0 0, M)
  | _ => none

theorem pWithin_ok [Strm] {args : List V} {M M' : Mem} {v : V} (h : pWithin M args = some (v, M')) {S : Si} {H : Dm} {F : List (Nat × Obj)} {w : World} (hk : oks (dom H M.nx) args) (hR : Rel S H M F w) :
    Does Tryz.prog 4 (concs S args).toArray w (Post S H M.nx F (some v) M') := by
  unfold pWithin at h
  split at h
  · cases h
    obtain ⟨L, h1, h2⟩ := hR.beside
    refine (within_spec (IntKind.i64.wrap (S.k 0)) 300 (by omega) (by omega) w _ h1).mono ?_
    rintro r w' ⟨rfl, H'⟩
    refine ⟨S, .refl _ _, Nat.le_refl _, fun v hv => ?_, h2 _ _ H'⟩
    cases hv
    refine ⟨?_, .inr hk.1, .inl rfl, .inl rfl⟩
    rw [V.conc, linC, X0, i64_u64]
    simp
  · cases h

/-- Memory is as it was, and the answer is yes. -/
noncomputable def pSure (M : Mem) : List V → Option (V × Mem)
  | [] => some (.bool true, M)
  | _ => none

theorem pSure_ok [Strm] {f : FuncId} (hs : ∀ (w : World) (F : List (Nat × Obj)), OrderIn F → SL w F → Does Tryz.prog f #[] w fun u w' => u = .bool true ∧ SL w' F) {args : List V} {M M' : Mem} {v : V} (h : pSure M args = some (v, M')) {S : Si} {H : Dm} {F : List (Nat × Obj)} {w : World} (hG : Obs.glob F) (hR : Rel S H M F w) :
    Does Tryz.prog f (concs S args).toArray w (Post S H M.nx F (some v) M') := by
  unfold pSure at h
  split at h
  · cases h
    obtain ⟨L, h1, h2⟩ := hR.beside
    refine (hs w _ (Obs.mono (fun q hq => List.mem_append_right _ hq) hG) h1).mono ?_
    rintro r w' ⟨rfl, H'⟩
    exact ⟨S, .refl _ _, Nat.le_refl _, fun v hv => by cases hv; exact ⟨rfl, True.intro⟩, h2 _ _ H'⟩
  · cases h

end Go.Proofs.YtdppnaahdilkcaaGreatDoor.Kp
end
