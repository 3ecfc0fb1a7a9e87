/-
  The proof's parts, in one file: ShH, VInv, ShJ, ShK, ShM, ShN.
-/
import Derived.Test.YtflfaiakenahlaaGreatDoorM4
import Derived.Test.YtflfaiakenahlaaGreatDoorM2
import Derived.Test.YtflfaiakenahlaaGreatDoorM3

section
/-
  The document's layer 1, walked: ReadCount, ReadBytes; a leaf's bytes.
-/
namespace Go.Proofs.YtflfaiakenahlaaGreatDoor.V
theorem geqN (a b : Nat) : decide ((a : Int) ≥ (b : Int)) = decide (b ≤ a) := by
  rw [Bool.eq_iff_iff, decide_eq_true_iff, decide_eq_true_iff]
  omega
end Go.Proofs.YtflfaiakenahlaaGreatDoor.V
namespace Go.Proofs.YtflfaiakenahlaaGreatDoor
open Go.Proofs.YtflfaiakenahlaaGreatDoor.V

theorem refreadcount_spec [Strm] (v : Value) (B : List UInt8) (e most : Nat) (hl : B.length ≤ 1000000) (hm : most ≤ 1000000) (w : World) (F G : List (Nat × Obj)) (hv : Inp G v B) (hG : ∀ p ∈ G, p ∈ F) (H : SL w F) :
    Does Tryz.prog 41 #[rrV v e, .int .i64 (most : Int)] w fun r w' => ∃ v', r = .tuple #[rrV v' (countM most (B, e)).1.2, .int .i64 ((countM most (B, e)).2 : Int)] ∧ Inp G v' (countM most (B, e)).1.1 ∧ SL w' F := by
  obtain ⟨a, cc, rfl, hcc⟩ := hv.len
  refine Does.intro (args := [_, _]) (e := [(0, _), (1, _)]) Tryz.func41 rfl Tryz.ntmps41 rfl rfl ?_
  repeat (first | refine .seq ?_ | refine .skip ?_ | refine .block ?_ | refine .inBlock ?_ | refine .yes rfl ?_ | refine .no rfl ?_ | refine .exit rfl ?_)
  repeat (first | refine .seq ?_ | refine .skip ?_ | refine .block ?_ | refine .inBlock ?_ | refine .yes rfl ?_ | refine .no rfl ?_ | refine .exit rfl ?_)
  refine RunsE.region ?_
  refine OpsE.ex (Ex.box H rfl) rfl ?_; (try clear H); rintro _ w ⟨b2, rfl, H⟩; simp only [Value.cells] at H
  refine OpsE.ex (Ex.alloc (zv := .agg #[.slice none 0 0, .int .i64 0]) H (by kernel_rfl)) rfl ?_; (try clear H); rintro _ w ⟨b4, rfl, H⟩; simp only [Value.cells] at H
  refine OpsE.ev (Ev.assign rfl) rfl ?_
  refine OpsE.nil ?_
  repeat (first | refine .seq ?_ | refine .skip ?_ | refine .block ?_ | refine .inBlock ?_ | refine .yes rfl ?_ | refine .no rfl ?_ | refine .exit rfl ?_)
  refine RunsE.region ?_
  refine OpsE.ev (Ev.move rfl) rfl ?_
  refine OpsE.ev (Ev.lss (r := false) rfl rfl (decide_eq_false (by omega))) rfl ?_
  refine OpsE.nil ?_
  repeat (first | refine .seq ?_ | refine .skip ?_ | refine .block ?_ | refine .inBlock ?_ | refine .yes rfl ?_ | refine .no rfl ?_ | refine .exit rfl ?_)
  repeat (first | refine .seq ?_ | refine .skip ?_ | refine .block ?_ | refine .inBlock ?_ | refine .yes rfl ?_ | refine .no rfl ?_ | refine .exit rfl ?_)
  refine RunsE.region ?_
  refine OpsE.ev (Ev.loadBlk (n := 2) (vs := rrL (.slice a B.length cc) e) H rfl (by kernel_rfl) rfl m1) rfl ?_
  refine OpsE.ev (Ev.move rfl) rfl ?_
  refine OpsE.ev (Ev.conv (c := (most : Int)) (k' := .u64) rfl (by kernel_rfl) (by kernel_rfl) (qu64 (by omega) (by omega))) rfl ?_
  refine OpsE.ex (Ex.call rfl Tryz.call42 (refreaduint_spec _ B e most hl w _ G hv (fun p hp => .tail _ (.tail _ (hG p hp))) H)) rfl ?_; (try clear H); rintro _ w ⟨v', rfl, hin, H⟩; obtain ⟨a', cc', rfl, hcc'⟩ := hin.len
  refine OpsE.ev (Ev.move rfl) rfl ?_
  refine OpsE.ev (Ev.extract rfl rfl) rfl ?_
  refine OpsE.ev (Ev.extract rfl rfl) rfl ?_
  refine OpsE.ex (Ex.alloc (zv := .agg #[.slice none 0 0, .int .i64 0]) H (by kernel_rfl)) rfl ?_; (try clear H); rintro _ w ⟨b6, rfl, H⟩; simp only [Value.cells] at H
  refine OpsE.exn (Ex.storeBlk (n := 2) (vs := rrL (.slice a' (uintM most (B, e)).1.1.length cc') (uintM most (B, e)).1.2) H rfl rfl (by kernel_rfl) rfl (by simp [Value.oneCell']) u0 rfl (Thaw.zero _ _)) ?_; (try clear H); intro _ w H
  refine OpsE.ev (Ev.assign rfl) rfl ?_
  refine OpsE.nil ?_
  have hle : (uintM most (B, e)).1.1.length ≤ B.length := by
    unfold uintM
    split
    · exact Nat.le_refl _
    · split
      · exact Nat.le_refl _
      · simp only [List.length_drop]; omega
  have hnm := uintM_le most (B, e)
  by_cases h1 : (uintM most (B, e)).1.2 ≠ 0
  · have hc : countM most (B, e) = ((B, (uintM most (B, e)).1.2), 0) := by
      by_cases h0 : e = 0
      · subst h0
        by_cases h2 : (numM B most).1 = 0
        · simp [uintM, h2] at h1
        · simp [uintM, countM, h2]
      · simp [uintM, countM, h0]
    repeat (first | refine .seq ?_ | refine .skip ?_ | refine .block ?_ | refine .inBlock ?_ | refine .yes rfl ?_ | refine .no rfl ?_ | refine .exit rfl ?_)
    refine RunsE.region ?_
    refine OpsE.ev (Ev.fieldAddr (o := 1) rfl (by kernel_rfl)) rfl ?_
    refine OpsE.ev (Ev.load H rfl (by kernel_rfl) (by first | exact Rd.mk m0 rfl | exact Rd.mk m1 rfl | exact Rd.mk m2 rfl | exact Rd.mk m3 rfl | assumption)) rfl ?_
    refine OpsE.ev (Ev.neq (r := true) rfl rfl (bne_iff_ne.2 (by omega))) rfl ?_
    refine OpsE.nil ?_
    repeat (first | refine .seq ?_ | refine .skip ?_ | refine .block ?_ | refine .inBlock ?_ | refine .yes rfl ?_ | refine .no rfl ?_ | refine .exit rfl ?_)
    repeat (first | refine .seq ?_ | refine .skip ?_ | refine .block ?_ | refine .inBlock ?_ | refine .yes rfl ?_ | refine .no rfl ?_ | refine .exit rfl ?_)
    refine RunsE.region ?_
    refine OpsE.ev (Ev.loadBlk (n := 2) (vs := rrL (.slice a B.length cc) e) H rfl (by kernel_rfl) rfl m2) rfl ?_
    refine OpsE.ev (Ev.fieldAddr (o := 1) rfl (by kernel_rfl)) rfl ?_
    refine OpsE.ev (Ev.load H rfl (by kernel_rfl) (by first | exact Rd.mk m0 rfl | exact Rd.mk m1 rfl | exact Rd.mk m2 rfl | exact Rd.mk m3 rfl | assumption)) rfl ?_
    refine OpsE.ex (Ex.call rfl Tryz.call76 (rfail_spec _ e (uintM most (B, e)).1.2 w _ H ⟨_, _, _, rfl⟩)) rfl ?_; (try clear H); rintro _ w ⟨rfl, H⟩
    refine OpsE.exn (Ex.storeBlk (n := 2) (vs := rrL (.slice a B.length cc) (if e = 0 then (uintM most (B, e)).1.2 else e)) H rfl rfl (by kernel_rfl) rfl (by simp [Value.oneCell']) u1 rfl (Thaw.zero _ _)) ?_; (try clear H); intro _ w H
    refine OpsE.ev (Ev.assign rfl) rfl ?_
    refine OpsE.nil ?_
    repeat (first | refine .seq ?_ | refine .skip ?_ | refine .block ?_ | refine .inBlock ?_ | refine .yes rfl ?_ | refine .no rfl ?_ | refine .exit rfl ?_)
    have he : (if e = 0 then (uintM most (B, e)).1.2 else e) = (countM most (B, e)).1.2 := by
      rw [hc]
      by_cases h0 : e = 0
      · simp [h0]
      · simp [uintM, h0]
    rw [he] at H
    refine RunsE.retAggTmp (vs := rrL (.slice a B.length cc) (countM most (B, e)).1.2) H Tryz.func41 rfl rfl rfl (by kernel_rfl) rfl m1 ⟨_, ?_, by rw [hc]; exact hv, H.drop.drop.drop⟩
    rw [hc]; rfl
  · have h1 : (uintM most (B, e)).1.2 = 0 := by omega
    have h0 : e = 0 := by
      rcases Nat.eq_zero_or_pos e with h | h
      · exact h
      · have : e ≠ 0 := by omega
        simp [uintM, this] at h1
    subst h0
    have h2 : (numM B most).1 = 0 := by
      by_cases h2 : (numM B most).1 = 0
      · exact h2
      · simp [uintM, h2] at h1
    have hu : uintM most (B, 0) = ((B.drop (numM B most).2.2, 0), (numM B most).2.1) := by simp [uintM, h2]
    rw [hu] at H hin hnm hle
    simp only at H hin hnm hle
    rw [hu]
    repeat (first | refine .seq ?_ | refine .skip ?_ | refine .block ?_ | refine .inBlock ?_ | refine .yes rfl ?_ | refine .no rfl ?_ | refine .exit rfl ?_)
    refine RunsE.region ?_
    refine OpsE.ev (Ev.fieldAddr (o := 1) rfl (by kernel_rfl)) rfl ?_
    refine OpsE.ev (Ev.load H rfl (by kernel_rfl) (by first | exact Rd.mk m0 rfl | exact Rd.mk m1 rfl | exact Rd.mk m2 rfl | exact Rd.mk m3 rfl | assumption)) rfl ?_
    refine OpsE.ev (Ev.neq (r := false) rfl rfl rfl) rfl ?_
    refine OpsE.nil ?_
    repeat (first | refine .seq ?_ | refine .skip ?_ | refine .block ?_ | refine .inBlock ?_ | refine .yes rfl ?_ | refine .no rfl ?_ | refine .exit rfl ?_)
    by_cases h3 : B.length - (numM B most).2.2 < (numM B most).2.1
    · have hc : countM most (B, 0) = ((B, 2), 0) := by
        unfold countM
        simp only [ne_eq, not_true, if_false, h2, if_pos h3]
      rw [hc]
      repeat (first | refine .seq ?_ | refine .skip ?_ | refine .block ?_ | refine .inBlock ?_ | refine .yes rfl ?_ | refine .no rfl ?_ | refine .exit rfl ?_)
      refine RunsE.region ?_
      refine OpsE.ev (Ev.move rfl) rfl ?_
      refine OpsE.ev (Ev.fieldAddr (o := 0) rfl (by kernel_rfl)) rfl ?_
      refine OpsE.ev (Ev.load H rfl (by kernel_rfl) (by first | exact Rd.mk m0 rfl | exact Rd.mk m1 rfl | exact Rd.mk m2 rfl | exact Rd.mk m3 rfl | assumption)) rfl ?_
      refine OpsE.ev (Ev.lenSl (d := 5) rfl rfl (by kernel_rfl)) rfl ?_
      refine OpsE.ev (Ev.conv (c := ((B.drop (numM B most).2.2).length : Int)) (k' := .u64) rfl (by kernel_rfl) (by kernel_rfl) (qu64 (by omega) (by omega))) rfl ?_
      refine OpsE.ev (Ev.gtr (r := true) rfl rfl (decide_eq_true (by rw [List.length_drop]; omega))) rfl ?_
      refine OpsE.nil ?_
      repeat (first | refine .seq ?_ | refine .skip ?_ | refine .block ?_ | refine .inBlock ?_ | refine .yes rfl ?_ | refine .no rfl ?_ | refine .exit rfl ?_)
      repeat (first | refine .seq ?_ | refine .skip ?_ | refine .block ?_ | refine .inBlock ?_ | refine .yes rfl ?_ | refine .no rfl ?_ | refine .exit rfl ?_)
      refine RunsE.region ?_
      refine OpsE.ev (Ev.loadBlk (n := 2) (vs := rrL (.slice a B.length cc) 0) H rfl (by kernel_rfl) rfl m2) rfl ?_
      refine OpsE.ex (Ex.call rfl Tryz.call76 (rfail_spec _ 0 2 w _ H ⟨_, _, _, rfl⟩)) rfl ?_; (try clear H); rintro _ w ⟨rfl, H⟩
      refine OpsE.exn (Ex.storeBlk (n := 2) (vs := rrL (.slice a B.length cc) 2) H rfl rfl (by kernel_rfl) rfl (by simp [Value.oneCell']) u1 rfl (Thaw.zero _ _)) ?_; (try clear H); intro _ w H
      refine OpsE.ev (Ev.assign rfl) rfl ?_
      refine OpsE.nil ?_
      repeat (first | refine .seq ?_ | refine .skip ?_ | refine .block ?_ | refine .inBlock ?_ | refine .yes rfl ?_ | refine .no rfl ?_ | refine .exit rfl ?_)
      exact RunsE.retAggTmp (vs := rrL (.slice a B.length cc) 2) H Tryz.func41 rfl rfl rfl (by kernel_rfl) rfl m1 ⟨_, rfl, hv, H.drop.drop.drop⟩
    · have hc : countM most (B, 0) = ((B.drop (numM B most).2.2, 0), (numM B most).2.1) := by
        unfold countM
        simp only [ne_eq, not_true, if_false, h2, if_neg h3]
      rw [hc]
      have h4 := (numM_ok h2).1
      repeat (first | refine .seq ?_ | refine .skip ?_ | refine .block ?_ | refine .inBlock ?_ | refine .yes rfl ?_ | refine .no rfl ?_ | refine .exit rfl ?_)
      refine RunsE.region ?_
      refine OpsE.ev (Ev.move rfl) rfl ?_
      refine OpsE.ev (Ev.fieldAddr (o := 0) rfl (by kernel_rfl)) rfl ?_
      refine OpsE.ev (Ev.load H rfl (by kernel_rfl) (by first | exact Rd.mk m0 rfl | exact Rd.mk m1 rfl | exact Rd.mk m2 rfl | exact Rd.mk m3 rfl | assumption)) rfl ?_
      refine OpsE.ev (Ev.lenSl (d := 5) rfl rfl (by kernel_rfl)) rfl ?_
      refine OpsE.ev (Ev.conv (c := ((B.drop (numM B most).2.2).length : Int)) (k' := .u64) rfl (by kernel_rfl) (by kernel_rfl) (qu64 (by omega) (by omega))) rfl ?_
      refine OpsE.ev (Ev.gtr (r := false) rfl rfl (decide_eq_false (by rw [List.length_drop]; omega))) rfl ?_
      refine OpsE.nil ?_
      repeat (first | refine .seq ?_ | refine .skip ?_ | refine .block ?_ | refine .inBlock ?_ | refine .yes rfl ?_ | refine .no rfl ?_ | refine .exit rfl ?_)
      repeat (first | refine .seq ?_ | refine .skip ?_ | refine .block ?_ | refine .inBlock ?_ | refine .yes rfl ?_ | refine .no rfl ?_ | refine .exit rfl ?_)
      refine RunsE.region ?_
      refine OpsE.ev (Ev.loadBlk (n := 2) (vs := rrL (.slice a' (B.drop (numM B most).2.2).length cc') 0) H rfl (by kernel_rfl) rfl m0) rfl ?_
      refine OpsE.ev (Ev.move rfl) rfl ?_
      refine OpsE.ev (Ev.conv (c := ((numM B most).2.1 : Int)) (k' := .i64) rfl (by kernel_rfl) (by kernel_rfl) (qi64 (by omega) (by omega))) rfl ?_
      refine OpsE.exn (Ex.storeBlk (n := 2) (vs := rrL (.slice a' (B.drop (numM B most).2.2).length cc') 0) H rfl rfl (by kernel_rfl) rfl (by simp [Value.oneCell']) u1 rfl (Thaw.zero _ _)) ?_; (try clear H); intro _ w H
      refine OpsE.ev (Ev.assign rfl) rfl ?_
      refine OpsE.nil ?_
      repeat (first | refine .seq ?_ | refine .skip ?_ | refine .block ?_ | refine .inBlock ?_ | refine .yes rfl ?_ | refine .no rfl ?_ | refine .exit rfl ?_)
      exact RunsE.retAggTmp (vs := rrL (.slice a' (B.drop (numM B most).2.2).length cc') 0) H Tryz.func41 rfl rfl rfl (by kernel_rfl) rfl m1 ⟨_, rfl, hin, H.drop.drop.drop⟩

set_option maxHeartbeats 2000000 in
theorem refreadbytes_spec [Strm] (v : Value) (B0 : List UInt8) (e most : Nat) (hl : B0.length ≤ 1000000) (hm : most ≤ 1000000) (w : World) (F G : List (Nat × Obj)) (hv : Inp G v B0) (hG : ∀ p ∈ G, p ∈ F) (H : SL w F) :
    Does Tryz.prog 43 #[rrV v e, .int .i64 (most : Int)] w fun r w' => ∃ v' u Bu, r = .tuple #[rrV v' (bytesM most (B0, e)).1.2, u] ∧ Inp G v' (bytesM most (B0, e)).1.1 ∧ Slc gB 1 5 u (bytesM most (B0, e)).2 Bu ∧ SL w' (Bu ++ F) := by
  obtain ⟨a1, c1, rfl, hc1⟩ := hv.len
  refine Does.intro (args := [_, _]) (e := [(0, _), (1, _)]) Tryz.func43 rfl Tryz.ntmps43 rfl rfl ?_
  repeat (first | refine .seq ?_ | refine .skip ?_ | refine .block ?_ | refine .inBlock ?_ | refine .yes rfl ?_ | refine .no rfl ?_ | refine .exit rfl ?_)
  repeat (first | refine .seq ?_ | refine .skip ?_ | refine .block ?_ | refine .inBlock ?_ | refine .yes rfl ?_ | refine .no rfl ?_ | refine .exit rfl ?_)
  refine RunsE.region ?_
  refine OpsE.ex (Ex.box H rfl) rfl ?_; (try clear H); rintro _ w ⟨b2, rfl, H⟩; simp only [Value.cells] at H
  refine OpsE.ex (Ex.alloc (zv := .agg #[.slice none 0 0, .int .i64 0]) H (by kernel_rfl)) rfl ?_; (try clear H); rintro _ w ⟨b4, rfl, H⟩; simp only [Value.cells] at H
  refine OpsE.ev (Ev.assign rfl) rfl ?_
  refine OpsE.nil ?_
  by_cases h0 : e ≠ 0
  · have e1 : bytesM most (B0, e) = ((B0, e), []) := by simp [bytesM, h0]
    rw [e1]
    repeat (first | refine .seq ?_ | refine .skip ?_ | refine .block ?_ | refine .inBlock ?_ | refine .yes rfl ?_ | refine .no rfl ?_ | refine .exit rfl ?_)
    refine RunsE.region ?_
    refine OpsE.ev (Ev.fieldAddr (o := 1) rfl (by kernel_rfl)) rfl ?_
    refine OpsE.ev (Ev.load H rfl (by kernel_rfl) (by first | exact Rd.mk m0 rfl | exact Rd.mk m1 rfl | exact Rd.mk m2 rfl | exact Rd.mk m3 rfl | assumption)) rfl ?_
    refine OpsE.ev (Ev.neq (r := true) rfl rfl (bne_iff_ne.2 (by omega))) rfl ?_
    refine OpsE.nil ?_
    repeat (first | refine .seq ?_ | refine .skip ?_ | refine .block ?_ | refine .inBlock ?_ | refine .yes rfl ?_ | refine .no rfl ?_ | refine .exit rfl ?_)
    repeat (first | refine .seq ?_ | refine .skip ?_ | refine .block ?_ | refine .inBlock ?_ | refine .yes rfl ?_ | refine .no rfl ?_ | refine .exit rfl ?_)
    refine RunsE.region ?_
    refine OpsE.ev (Ev.loadBlk (n := 2) (vs := rrL (.slice a1 B0.length c1) e) H rfl (by kernel_rfl) rfl m1) rfl ?_
    refine OpsE.exn (Ex.storeBlk (n := 2) H rfl rfl (by kernel_rfl) (by first | rfl | simp) (by simp [Value.oneCell']) u0 (by first | rfl | simp) (Thaw.zero _ _)) ?_; (try clear H); intro _ w H
    refine OpsE.ev (Ev.assign rfl) rfl ?_
    refine OpsE.nil ?_
    repeat (first | refine .seq ?_ | refine .skip ?_ | refine .block ?_ | refine .inBlock ?_ | refine .yes rfl ?_ | refine .no rfl ?_ | refine .exit rfl ?_)
    exact RunsE.retAggTmp (vs := rrL (.slice a1 B0.length c1) e) H Tryz.func43 rfl rfl rfl (by kernel_rfl) rfl m0 ⟨_, _, [], rfl, hv, .nil, H.drop.drop⟩
  obtain rfl : e = 0 := by omega
  have hbad : ∀ {n : Nat}, n ≠ 0 → scanM most [] B0 = (n, [], []) → bytesM most (B0, 0) = ((B0, n), []) := fun {n} hn h => by
    unfold bytesM
    simp only [ne_eq, not_true, if_false, h, hn, not_false_eq_true, if_true]
  repeat (first | refine .seq ?_ | refine .skip ?_ | refine .block ?_ | refine .inBlock ?_ | refine .yes rfl ?_ | refine .no rfl ?_ | refine .exit rfl ?_)
  refine RunsE.region ?_
  refine OpsE.ev (Ev.fieldAddr (o := 1) rfl (by kernel_rfl)) rfl ?_
  refine OpsE.ev (Ev.load H rfl (by kernel_rfl) (by first | exact Rd.mk m0 rfl | exact Rd.mk m1 rfl | exact Rd.mk m2 rfl | exact Rd.mk m3 rfl | assumption)) rfl ?_
  refine OpsE.ev (Ev.neq (r := false) rfl rfl rfl) rfl ?_
  refine OpsE.nil ?_
  repeat (first | refine .seq ?_ | refine .skip ?_ | refine .block ?_ | refine .inBlock ?_ | refine .yes rfl ?_ | refine .no rfl ?_ | refine .exit rfl ?_)
  repeat (first | refine .seq ?_ | refine .skip ?_ | refine .block ?_ | refine .inBlock ?_ | refine .yes rfl ?_ | refine .no rfl ?_ | refine .exit rfl ?_)
  refine RunsE.region ?_
  refine OpsE.ev (Ev.move rfl) rfl ?_
  refine OpsE.ev (Ev.lss (r := false) rfl rfl (decide_eq_false (by omega))) rfl ?_
  refine OpsE.nil ?_
  repeat (first | refine .seq ?_ | refine .skip ?_ | refine .block ?_ | refine .inBlock ?_ | refine .yes rfl ?_ | refine .no rfl ?_ | refine .exit rfl ?_)
  repeat (first | refine .seq ?_ | refine .skip ?_ | refine .block ?_ | refine .inBlock ?_ | refine .yes rfl ?_ | refine .no rfl ?_ | refine .exit rfl ?_)
  refine RunsE.region ?_
  refine OpsE.ev (Ev.assign rfl) rfl ?_
  refine OpsE.nil ?_
  repeat (first | refine .seq ?_ | refine .skip ?_ | refine .block ?_ | refine .inBlock ?_ | refine .yes rfl ?_ | refine .no rfl ?_ | refine .exit rfl ?_)
  refine RunsE.region ?_
  refine OpsE.ev (Ev.assign rfl) rfl ?_
  refine OpsE.nil ?_
  obtain ⟨M, hM⟩ : ∃ M : List (Nat × Obj), M = (b4, .cells #[.slice none 0 0, .int .i64 0] 94 (0, 0)) :: (b2, .cells (rrL (.slice a1 B0.length c1) 0).toArray 94 (0, 0)) :: F := ⟨_, rfl⟩
  have H0 : SL w M := by rw [hM]; exact H
  have hr2 : ∀ {X : List (Nat × Obj)}, Rd (X ++ M) ⟨b2, 0, none⟩ (.slice a1 B0.length c1) := fun {X} => by rw [hM]; exact Rd.right (Rd.mk m1 rfl)
  have hinG : ∀ {X : List (Nat × Obj)} {ad : Addr} {u : Value}, Rd G ad u → Rd (X ++ M) ad u := fun {X ad u} h => by rw [hM]; exact Rd.right ((h.sub hG).tail.tail)
  repeat refine RunsE.seq ?_
  refine RunsE.join (fun _ : Unit => [(2, .pointer (some ⟨b2, 0, none⟩)), (4, .pointer (some ⟨b4, 0, none⟩))]) (fun _ w => scanM most [] B0 = (12, [], []) ∧ SL w M) (fun next => ?_) ?_
  · refine RunsE.block ?_
    refine RunsE.loop (fun s : Nat × Value × List UInt8 => [(1, .int .i64 (most : Int)), (2, .pointer (some ⟨b2, 0, none⟩)), (4, .pointer (some ⟨b4, 0, none⟩)), (6, s.2.1), (7, .int .i64 (s.1 : Int))])
      (fun s w => s.1 ≤ B0.length ∧ s.2.2.length ≤ most ∧ scanM most s.2.2 (B0.drop s.1) = scanM most [] B0 ∧ ∃ B, Slc gB 1 5 s.2.1 s.2.2 B ∧ SL w (B ++ M)) (fun s => B0.length - s.1)
      (0, .slice none 0 0, []) ⟨rfl, rfl, rfl, rfl, rfl, trivial⟩ ⟨by omega, by simp, rfl, [], .nil, H0⟩ ?_
    clear H H0
    rintro ⟨i, vo, out⟩ w ⟨hi, ho, hsc, B, hs, H⟩ nextL
    simp only at hi ho hsc hs
    obtain ⟨ao, co, rfl, hco⟩ := hs.leCap
    by_cases h1 : i = B0.length
    ·
      repeat (first | refine .seq ?_ | refine .skip ?_ | refine .block ?_ | refine .inBlock ?_ | refine .yes rfl ?_ | refine .no rfl ?_ | refine .exit rfl ?_)
      refine RunsE.region ?_
      refine OpsE.ev (Ev.move rfl) rfl ?_
      refine OpsE.ev (Ev.fieldAddr (o := 0) rfl (by kernel_rfl)) rfl ?_
      refine OpsE.ev (Ev.load H rfl (by kernel_rfl) hr2) rfl ?_
      refine OpsE.ev (Ev.lenSl (d := 5) rfl rfl (by kernel_rfl)) rfl ?_
      refine OpsE.ev (Ev.lss (r := false) rfl rfl (decide_eq_false (by simp only; omega))) rfl ?_
      refine OpsE.nil ?_
      repeat refine RunsE.seq ?_
      refine RunsE.no rfl ?_
      refine RunsE.exit rfl ?_
      rw [h1, List.drop_length] at hsc
      exact next () _ _ ⟨hsc.symm, H.dropL⟩ ⟨rfl, rfl, trivial⟩
    clear next
    have hil : i < B0.length := by omega
    obtain ⟨bx, ox, rfl, hrd1⟩ := hv.atI hil
    have hdr := drop_consD (d := 0) hil
    obtain ⟨c, hc⟩ : ∃ c, c = B0.getD i 0 := ⟨_, rfl⟩
    rw [← hc] at hrd1 hdr
    have hcb := c.toNat_lt
    rw [hdr] at hsc
    have hload : ∀ {X : List (Nat × Obj)} {n : Nat}, n ≠ 0 → scanM most [] B0 = (n, [], []) → True := fun _ _ => trivial
    clear hload
    repeat (first | refine .seq ?_ | refine .skip ?_ | refine .block ?_ | refine .inBlock ?_ | refine .yes rfl ?_ | refine .no rfl ?_ | refine .exit rfl ?_)
    refine RunsE.region ?_
    refine OpsE.ev (Ev.move rfl) rfl ?_
    refine OpsE.ev (Ev.fieldAddr (o := 0) rfl (by kernel_rfl)) rfl ?_
    refine OpsE.ev (Ev.load H rfl (by kernel_rfl) hr2) rfl ?_
    refine OpsE.ev (Ev.lenSl (d := 5) rfl rfl (by kernel_rfl)) rfl ?_
    refine OpsE.ev (Ev.lss (r := true) rfl rfl (decide_eq_true (by simp only; omega))) rfl ?_
    refine OpsE.nil ?_
    repeat (first | refine .seq ?_ | refine .skip ?_ | refine .block ?_ | refine .inBlock ?_ | refine .yes rfl ?_ | refine .no rfl ?_ | refine .exit rfl ?_)
    repeat (first | refine .seq ?_ | refine .skip ?_ | refine .block ?_ | refine .inBlock ?_ | refine .yes rfl ?_ | refine .no rfl ?_ | refine .exit rfl ?_)
    refine RunsE.region ?_
    refine OpsE.ev (Ev.assign rfl) rfl ?_
    refine OpsE.nil ?_
    repeat (first | refine .seq ?_ | refine .skip ?_ | refine .block ?_ | refine .inBlock ?_ | refine .yes rfl ?_ | refine .no rfl ?_ | refine .exit rfl ?_)
    refine RunsE.region ?_
    refine OpsE.ev (Ev.fieldAddr (o := 0) rfl (by kernel_rfl)) rfl ?_
    refine OpsE.ev (Ev.load H rfl (by kernel_rfl) hr2) rfl ?_
    refine OpsE.ev (Ev.move rfl) rfl ?_
    refine OpsE.ev (Ev.iaSl (n := 5) (sz := 1) (m := i) (o := ox + i) rfl rfl rfl (by kernel_rfl) hil (by rw [Nat.mul_one])) rfl ?_
    refine OpsE.ev (Ev.load (v := BV c) H rfl (by kernel_rfl) (hinG hrd1)) rfl ?_
    refine OpsE.ev (Ev.eql (r := decide (c = 0)) rfl rfl (eq0 _)) rfl ?_
    refine OpsE.nil ?_
    repeat refine RunsE.seq ?_
    refine RunsE.join (fun m : Nat => [(1, .int .i64 (most : Int)), (2, .pointer (some ⟨b2, 0, none⟩)), (4, .pointer (some ⟨b4, 0, none⟩)), (6, .slice ao out.length co), (7, .int .i64 (i : Int)), (8, .int .i64 (m : Int))])
      (fun m w => i + m ≤ B0.length ∧ 1 ≤ m ∧ (scanM most [] B0 = if out.length = most then (2, [], []) else scanM most (out ++ [c]) (B0.drop (i + m))) ∧ SL w (B ++ M)) (fun next => ?_) ?_
    · by_cases h2 : c = 0
      · subst h2
        repeat refine RunsE.seq ?_
        refine RunsE.yes rfl ?_
        by_cases h3 : i + 1 = B0.length
        · have e1 : B0.drop (i + 1) = [] := by rw [h3, List.drop_length]
          rw [e1, scanM_end] at hsc
          repeat (first | refine .seq ?_ | refine .skip ?_ | refine .block ?_ | refine .inBlock ?_ | refine .yes rfl ?_ | refine .no rfl ?_ | refine .exit rfl ?_)
          refine RunsE.region ?_
          refine OpsE.ev (Ev.move rfl) rfl ?_
          refine OpsE.ev (Ev.add rfl rfl) rfl ?_
          refine OpsE.ev (Ev.fieldAddr (o := 0) rfl (by kernel_rfl)) rfl ?_
          refine OpsE.ev (Ev.load H rfl (by kernel_rfl) hr2) rfl ?_
          refine OpsE.ev (Ev.lenSl (d := 5) rfl rfl (by kernel_rfl)) rfl ?_
          refine OpsE.ev (Ev.eql (r := true) rfl rfl (beq_iff_eq.2 (by simp only; omega))) rfl ?_
          refine OpsE.nil ?_
          repeat (first | refine .seq ?_ | refine .skip ?_ | refine .block ?_ | refine .inBlock ?_ | refine .yes rfl ?_ | refine .no rfl ?_ | refine .exit rfl ?_)
          replace H := H.dropL
          rw [hM] at H
          repeat (first | refine .seq ?_ | refine .skip ?_ | refine .block ?_ | refine .inBlock ?_ | refine .yes rfl ?_ | refine .no rfl ?_ | refine .exit rfl ?_)
          refine RunsE.region ?_
          refine OpsE.ev (Ev.loadBlk (n := 2) (vs := rrL (.slice (some ⟨bx, ox, none⟩) B0.length c1) 0) H rfl (by kernel_rfl) rfl m1) rfl ?_
          refine OpsE.ex (Ex.call rfl Tryz.call76 (rfail_spec _ 0 12 w _ H ⟨_, _, _, rfl⟩)) rfl ?_; (try clear H); rintro _ w ⟨rfl, H⟩
          refine OpsE.exn (Ex.storeBlk (n := 2) H rfl rfl (by kernel_rfl) (by first | rfl | simp) (by simp [Value.oneCell']) u0 (by first | rfl | simp) (Thaw.zero _ _)) ?_; (try clear H); intro _ w H
          refine OpsE.ev (Ev.assign rfl) rfl ?_
          refine OpsE.nil ?_
          repeat (first | refine .seq ?_ | refine .skip ?_ | refine .block ?_ | refine .inBlock ?_ | refine .yes rfl ?_ | refine .no rfl ?_ | refine .exit rfl ?_)
          rw [hbad (by decide) hsc.symm]
          exact RunsE.retAggTmp (vs := rrL (.slice (some ⟨bx, ox, none⟩) B0.length c1) 12) H Tryz.func43 rfl rfl rfl (by kernel_rfl) rfl m0 ⟨_, _, [], rfl, hv, .nil, H.drop.drop⟩
        have hil1 : i + 1 < B0.length := by omega
        obtain ⟨bx2, ox2, ee, hrd2⟩ := hv.atI hil1
        cases ee
        have hdr2 := drop_consD (d := 0) hil1
        obtain ⟨d, hd⟩ : ∃ d, d = B0.getD (i + 1) 0 := ⟨_, rfl⟩
        rw [← hd] at hrd2 hdr2
        have hdb := d.toNat_lt
        rw [hdr2] at hsc
        repeat (first | refine .seq ?_ | refine .skip ?_ | refine .block ?_ | refine .inBlock ?_ | refine .yes rfl ?_ | refine .no rfl ?_ | refine .exit rfl ?_)
        refine RunsE.region ?_
        refine OpsE.ev (Ev.move rfl) rfl ?_
        refine OpsE.ev (Ev.add (c := ((i + 1 : Nat) : Int)) rfl rfl (by simp only; rw [qi64 (by omega) (by omega)]; omega)) rfl ?_
        refine OpsE.ev (Ev.fieldAddr (o := 0) rfl (by kernel_rfl)) rfl ?_
        refine OpsE.ev (Ev.load H rfl (by kernel_rfl) hr2) rfl ?_
        refine OpsE.ev (Ev.lenSl (d := 5) rfl rfl (by kernel_rfl)) rfl ?_
        refine OpsE.ev (Ev.eql (r := false) rfl rfl (beq_eq_false_iff_ne.2 (by omega))) rfl ?_
        refine OpsE.nil ?_
        repeat (first | refine .seq ?_ | refine .skip ?_ | refine .block ?_ | refine .inBlock ?_ | refine .yes rfl ?_ | refine .no rfl ?_ | refine .exit rfl ?_)
        repeat (first | refine .seq ?_ | refine .skip ?_ | refine .block ?_ | refine .inBlock ?_ | refine .yes rfl ?_ | refine .no rfl ?_ | refine .exit rfl ?_)
        refine RunsE.region ?_
        refine OpsE.ev (Ev.fieldAddr (o := 0) rfl (by kernel_rfl)) rfl ?_
        refine OpsE.ev (Ev.load H rfl (by kernel_rfl) hr2) rfl ?_
        refine OpsE.ev (Ev.move rfl) rfl ?_
        refine OpsE.ev (Ev.add (c := ((i + 1 : Nat) : Int)) rfl rfl (by simp only; rw [qi64 (by omega) (by omega)]; omega)) rfl ?_
        refine OpsE.ev (Ev.iaSl (n := 5) (sz := 1) (m := i + 1) (o := ox + (i + 1)) rfl rfl rfl (by kernel_rfl) hil1 (by rw [Nat.mul_one])) rfl ?_
        refine OpsE.ev (Ev.load (v := BV d) H rfl (by kernel_rfl) (hinG hrd2)) rfl ?_
        refine OpsE.ev (Ev.eql (r := decide (d = 0)) rfl rfl (eq0 _)) rfl ?_
        refine OpsE.nil ?_
        by_cases h4 : d = 0
        · subst h4
          rw [scanM_00] at hsc
          repeat refine RunsE.seq ?_
          refine RunsE.yes rfl ?_
          have hin := hv.drop (k := i + 2) (by omega)
          replace H : SL w ((b4, .cells #[.slice none 0 0, .int .i64 0] 94 (0, 0)) :: (b2, .cells (rrL (.slice (some ⟨bx, ox, none⟩) B0.length c1) 0).toArray 94 (0, 0)) :: (B ++ F)) := by
            rw [hM] at H
            exact H.unmid2
          repeat (first | refine .seq ?_ | refine .skip ?_ | refine .block ?_ | refine .inBlock ?_ | refine .yes rfl ?_ | refine .no rfl ?_ | refine .exit rfl ?_)
          refine RunsE.region ?_
          refine OpsE.ev (Ev.fieldAddr (o := 0) rfl (by kernel_rfl)) rfl ?_
          refine OpsE.ev (Ev.load H rfl (by kernel_rfl) (by first | exact Rd.mk m0 rfl | exact Rd.mk m1 rfl | exact Rd.mk m2 rfl | exact Rd.mk m3 rfl | assumption)) rfl ?_
          refine OpsE.ev (Ev.move rfl) rfl ?_
          refine OpsE.ev (Ev.add (c := ((i + 2 : Nat) : Int)) rfl rfl (by simp only; rw [qi64 (by omega) (by omega)]; omega)) rfl ?_
          refine OpsE.ev (Ev.slSl (el := 5) (sz := 1) (l := i + 2) rfl (by kernel_rfl) (⟨_, rfl⟩) (rfl) (by omega) (by omega)) rfl ?_
          refine OpsE.ev (Ev.fieldAddr (o := 0) rfl (by kernel_rfl)) rfl ?_
          refine OpsE.exn (Ex.store1 H rfl rfl (by kernel_rfl) rfl u1 (by simp) (Thaw.zero _ _) rfl) ?_; (try clear H); intro _ w H
          refine OpsE.nil ?_
          repeat (first | refine .seq ?_ | refine .skip ?_ | refine .block ?_ | refine .inBlock ?_ | refine .yes rfl ?_ | refine .no rfl ?_ | refine .exit rfl ?_)
          refine RunsE.region ?_
          refine OpsE.ev (Ev.loadBlk (n := 2) (vs := rrL (.slice (cutAddr (some ⟨bx, ox, none⟩) (i + 2) c1 1) (B0.length - (i + 2)) (c1 - (i + 2))) 0) H rfl (by kernel_rfl) rfl m1) rfl ?_
          refine OpsE.ev (Ev.move rfl) rfl ?_
          refine OpsE.exn (Ex.storeBlk (n := 2) H rfl rfl (by kernel_rfl) (by first | rfl | simp) (by simp [Value.oneCell']) u0 (by first | rfl | simp) (Thaw.zero _ _)) ?_; (try clear H); intro _ w H
          refine OpsE.ev (Ev.assign rfl) rfl ?_
          refine OpsE.nil ?_
          repeat (first | refine .seq ?_ | refine .skip ?_ | refine .block ?_ | refine .inBlock ?_ | refine .yes rfl ?_ | refine .no rfl ?_ | refine .exit rfl ?_)
          have e1 : bytesM most (B0, 0) = ((B0.drop (i + 1 + 1), 0), out) := by
            unfold bytesM
            simp only [ne_eq, not_true, if_false, ← hsc]
          rw [e1]
          exact RunsE.retAggTmp (vs := rrL (.slice (cutAddr (some ⟨bx, ox, none⟩) (i + 2) c1 1) (B0.length - (i + 2)) (c1 - (i + 2))) 0) H Tryz.func43 rfl rfl rfl (by kernel_rfl) rfl m0 ⟨_, _, B, rfl, hin, hs, H.drop.drop⟩
        repeat refine RunsE.seq ?_
        refine RunsE.no (by rw [decide_eq_false h4]; rfl) ?_
        repeat (first | refine .seq ?_ | refine .skip ?_ | refine .block ?_ | refine .inBlock ?_ | refine .yes rfl ?_ | refine .no rfl ?_ | refine .exit rfl ?_)
        refine RunsE.region ?_
        refine OpsE.ev (Ev.fieldAddr (o := 0) rfl (by kernel_rfl)) rfl ?_
        refine OpsE.ev (Ev.load H rfl (by kernel_rfl) hr2) rfl ?_
        refine OpsE.ev (Ev.move rfl) rfl ?_
        refine OpsE.ev (Ev.add (c := ((i + 1 : Nat) : Int)) rfl rfl (by simp only; rw [qi64 (by omega) (by omega)]; omega)) rfl ?_
        refine OpsE.ev (Ev.iaSl (n := 5) (sz := 1) (m := i + 1) (o := ox + (i + 1)) rfl rfl rfl (by kernel_rfl) hil1 (by rw [Nat.mul_one])) rfl ?_
        refine OpsE.ev (Ev.load (v := BV d) H rfl (by kernel_rfl) (hinG hrd2)) rfl ?_
        refine OpsE.ev (Ev.neq (r := decide (d ≠ 255)) rfl rfl (ne255 d)) rfl ?_
        refine OpsE.nil ?_
        by_cases h5 : d = 255
        · subst h5
          rw [scanM_0f] at hsc
          repeat refine RunsE.seq ?_
          refine RunsE.no rfl ?_
          repeat (first | refine .seq ?_ | refine .skip ?_ | refine .block ?_ | refine .inBlock ?_ | refine .yes rfl ?_ | refine .no rfl ?_ | refine .exit rfl ?_)
          refine RunsE.region ?_
          refine OpsE.ev (Ev.assign rfl) rfl ?_
          refine OpsE.nil ?_
          exact next 2 _ _ ⟨by omega, by omega, hsc.symm, H⟩ ⟨rfl, rfl, rfl, rfl, rfl, rfl, trivial⟩
        · rw [scanM_03 h4 h5] at hsc
          repeat refine RunsE.seq ?_
          refine RunsE.yes (by rw [decide_eq_true h5]; rfl) ?_
          replace H := H.dropL
          rw [hM] at H
          repeat (first | refine .seq ?_ | refine .skip ?_ | refine .block ?_ | refine .inBlock ?_ | refine .yes rfl ?_ | refine .no rfl ?_ | refine .exit rfl ?_)
          refine RunsE.region ?_
          refine OpsE.ev (Ev.loadBlk (n := 2) (vs := rrL (.slice (some ⟨bx, ox, none⟩) B0.length c1) 0) H rfl (by kernel_rfl) rfl m1) rfl ?_
          refine OpsE.ex (Ex.call rfl Tryz.call76 (rfail_spec _ 0 3 w _ H ⟨_, _, _, rfl⟩)) rfl ?_; (try clear H); rintro _ w ⟨rfl, H⟩
          refine OpsE.exn (Ex.storeBlk (n := 2) H rfl rfl (by kernel_rfl) (by first | rfl | simp) (by simp [Value.oneCell']) u0 (by first | rfl | simp) (Thaw.zero _ _)) ?_; (try clear H); intro _ w H
          refine OpsE.ev (Ev.assign rfl) rfl ?_
          refine OpsE.nil ?_
          repeat (first | refine .seq ?_ | refine .skip ?_ | refine .block ?_ | refine .inBlock ?_ | refine .yes rfl ?_ | refine .no rfl ?_ | refine .exit rfl ?_)
          rw [hbad (by decide) hsc.symm]
          exact RunsE.retAggTmp (vs := rrL (.slice (some ⟨bx, ox, none⟩) B0.length c1) 3) H Tryz.func43 rfl rfl rfl (by kernel_rfl) rfl m0 ⟨_, _, [], rfl, hv, .nil, H.drop.drop⟩
      · rw [scanM_c h2] at hsc
        repeat refine RunsE.seq ?_
        refine RunsE.no (by rw [decide_eq_false h2]; rfl) ?_
        refine RunsE.skip ?_
        exact next 1 _ _ ⟨by omega, by omega, hsc.symm, H⟩ ⟨rfl, rfl, rfl, rfl, rfl, rfl, trivial⟩
    clear H hsc
    rintro m w ⟨hi', hm1, hsc, H⟩
    by_cases h6 : out.length = most
    · rw [if_pos h6] at hsc
      repeat (first | refine .seq ?_ | refine .skip ?_ | refine .block ?_ | refine .inBlock ?_ | refine .yes rfl ?_ | refine .no rfl ?_ | refine .exit rfl ?_)
      refine RunsE.region ?_
      refine OpsE.ev (Ev.move rfl) rfl ?_
      refine OpsE.ev (Ev.lenSl (d := 5) rfl rfl (by kernel_rfl)) rfl ?_
      refine OpsE.ev (Ev.move rfl) rfl ?_
      refine OpsE.ev (Ev.geq (r := true) rfl rfl (decide_eq_true (by omega))) rfl ?_
      refine OpsE.nil ?_
      repeat (first | refine .seq ?_ | refine .skip ?_ | refine .block ?_ | refine .inBlock ?_ | refine .yes rfl ?_ | refine .no rfl ?_ | refine .exit rfl ?_)
      replace H := H.dropL
      rw [hM] at H
      repeat (first | refine .seq ?_ | refine .skip ?_ | refine .block ?_ | refine .inBlock ?_ | refine .yes rfl ?_ | refine .no rfl ?_ | refine .exit rfl ?_)
      refine RunsE.region ?_
      refine OpsE.ev (Ev.loadBlk (n := 2) (vs := rrL (.slice (some ⟨bx, ox, none⟩) B0.length c1) 0) H rfl (by kernel_rfl) rfl m1) rfl ?_
      refine OpsE.ex (Ex.call rfl Tryz.call76 (rfail_spec _ 0 2 w _ H ⟨_, _, _, rfl⟩)) rfl ?_; (try clear H); rintro _ w ⟨rfl, H⟩
      refine OpsE.exn (Ex.storeBlk (n := 2) H rfl rfl (by kernel_rfl) (by first | rfl | simp) (by simp [Value.oneCell']) u0 (by first | rfl | simp) (Thaw.zero _ _)) ?_; (try clear H); intro _ w H
      refine OpsE.ev (Ev.assign rfl) rfl ?_
      refine OpsE.nil ?_
      repeat (first | refine .seq ?_ | refine .skip ?_ | refine .block ?_ | refine .inBlock ?_ | refine .yes rfl ?_ | refine .no rfl ?_ | refine .exit rfl ?_)
      rw [hbad (by decide) hsc]
      exact RunsE.retAggTmp (vs := rrL (.slice (some ⟨bx, ox, none⟩) B0.length c1) 2) H Tryz.func43 rfl rfl rfl (by kernel_rfl) rfl m0 ⟨_, _, [], rfl, hv, .nil, H.drop.drop⟩
    · rw [if_neg h6] at hsc
      repeat (first | refine .seq ?_ | refine .skip ?_ | refine .block ?_ | refine .inBlock ?_ | refine .yes rfl ?_ | refine .no rfl ?_ | refine .exit rfl ?_)
      refine RunsE.region ?_
      refine OpsE.ev (Ev.move rfl) rfl ?_
      refine OpsE.ev (Ev.lenSl (d := 5) rfl rfl (by kernel_rfl)) rfl ?_
      refine OpsE.ev (Ev.move rfl) rfl ?_
      refine OpsE.ev (Ev.geq (r := false) rfl rfl (decide_eq_false (by omega))) rfl ?_
      refine OpsE.nil ?_
      repeat (first | refine .seq ?_ | refine .skip ?_ | refine .block ?_ | refine .inBlock ?_ | refine .yes rfl ?_ | refine .no rfl ?_ | refine .exit rfl ?_)
      repeat (first | refine .seq ?_ | refine .skip ?_ | refine .block ?_ | refine .inBlock ?_ | refine .yes rfl ?_ | refine .no rfl ?_ | refine .exit rfl ?_)
      refine RunsE.region ?_
      refine OpsE.ev (Ev.move rfl) rfl ?_
      refine OpsE.ev (Ev.fieldAddr (o := 0) rfl (by kernel_rfl)) rfl ?_
      refine OpsE.ev (Ev.load H rfl (by kernel_rfl) hr2) rfl ?_
      refine OpsE.ev (Ev.move rfl) rfl ?_
      refine OpsE.ev (Ev.iaSl (n := 5) (sz := 1) (m := i) (o := ox + i) rfl rfl rfl (by kernel_rfl) hil (by rw [Nat.mul_one])) rfl ?_
      refine OpsE.ev (Ev.load (v := BV c) H rfl (by kernel_rfl) (hinG hrd1)) rfl ?_
      refine OpsE.ex (Ex.buildSl (T := 5) (zv := .int .u8 0) H rfl (by kernel_rfl) (by kernel_rfl) (by simp [Value.oneCell']) rfl (by omega) (by omega)) rfl ?_; (try clear H); rintro _ w ⟨b72, rfl, H⟩
      refine OpsE.ex (Ex.append (T := 5) (g := gB) (by_ := 1) (zv := .int .u8 0) (ys := [c]) H.drop rfl rfl hs (Src.row0 H m0 rfl) (fun _ => rfl) (by simp [Value.oneCell']) (by kernel_rfl) (by kernel_rfl) (by kernel_rfl) (by kernel_rfl) rfl (by simp; omega) (by simp; omega)) rfl ?_; (try clear H); rintro v' w ⟨B, hs, H⟩
      refine OpsE.ev (Ev.assign rfl) rfl ?_
      refine OpsE.nil ?_
      repeat (first | refine .seq ?_ | refine .skip ?_ | refine .block ?_ | refine .inBlock ?_ | refine .yes rfl ?_ | refine .no rfl ?_ | refine .exit rfl ?_)
      refine RunsE.region ?_
      refine OpsE.ev (Ev.move rfl) rfl ?_
      refine OpsE.ev (Ev.move rfl) rfl ?_
      refine OpsE.ev (Ev.add (c := ((i + m : Nat) : Int)) rfl rfl (by rw [qi64 (by omega) (by omega)]; omega)) rfl ?_
      refine OpsE.ev (Ev.assign rfl) rfl ?_
      refine OpsE.nil ?_
      refine RunsE.inBlock ?_
      exact nextL (i + m, v', out ++ [c]) _ _ (by simp only; omega) ⟨hi', by simp; omega, hsc.symm, B, hs, H⟩ ⟨rfl, rfl, rfl, rfl, rfl, trivial⟩
  · clear H H0
    rintro _ w ⟨hsc, H⟩
    rw [hM] at H
    repeat (first | refine .seq ?_ | refine .skip ?_ | refine .block ?_ | refine .inBlock ?_ | refine .yes rfl ?_ | refine .no rfl ?_ | refine .exit rfl ?_)
    refine RunsE.region ?_
    refine OpsE.ev (Ev.loadBlk (n := 2) (vs := rrL (.slice a1 B0.length c1) 0) H rfl (by kernel_rfl) rfl m1) rfl ?_
    refine OpsE.ex (Ex.call rfl Tryz.call76 (rfail_spec _ 0 12 w _ H ⟨_, _, _, rfl⟩)) rfl ?_; (try clear H); rintro _ w ⟨rfl, H⟩
    refine OpsE.exn (Ex.storeBlk (n := 2) H rfl rfl (by kernel_rfl) (by first | rfl | simp) (by simp [Value.oneCell']) u0 (by first | rfl | simp) (Thaw.zero _ _)) ?_; (try clear H); intro _ w H
    refine OpsE.ev (Ev.assign rfl) rfl ?_
    refine OpsE.nil ?_
    repeat (first | refine .seq ?_ | refine .skip ?_ | refine .block ?_ | refine .inBlock ?_ | refine .yes rfl ?_ | refine .no rfl ?_ | refine .exit rfl ?_)
    rw [hbad (by decide) hsc]
    exact RunsE.retAggTmp (vs := rrL (.slice a1 B0.length c1) 12) H Tryz.func43 rfl rfl rfl (by kernel_rfl) rfl m0 ⟨_, _, [], rfl, hv, .nil, H.drop.drop⟩

end Go.Proofs.YtflfaiakenahlaaGreatDoor
end

section
/-
  The engine: calls through an interface, type assertions; elements of several cells of a slice of one's own.
-/
namespace Go.Proofs.YtflfaiakenahlaaGreatDoor.V

/-- A region whose order is open, told by a part of what lies in memory. -/
theorem RunsE.drawSub [Strm] {P : Program} {C : Ctx} {R : Ending → World → Prop} {n : Nat} {k : List Item} {e : Env} {w : World} {id : Nat} {l : List Oper} {L L' : List (Nat × Obj)}
    (H : SL w L) (_ : ∀ w, SL w L → SL w L') (T : List Nat) (hm : P.follows .mixedOrders = true)
    (h : ∀ w', SL w' L → OpsD P C R k l.toArray (fun w => SL w L') T n l.length (Array.replicate l.length false) e w') (hro : C.ro = none := by rfl) :
    RunsE P C R n (.code (.region id l.toArray true) :: k) e w :=
  RunsE.draw _ T hm hro fun w' hw hk => h w' (H.heap hw hk)

/-- The method of a type by its name: its function, and whether it takes the pointer. -/
def methT (P : Program) (t : TypeId) (name : String) : Option (FuncId × Bool) := (P.info? t).bind fun inf => (inf.methods.find? (·.name == name)).bind fun m => if m.path.toList.isEmpty then m.func else none

theorem methT_spec {P : Program} {t : TypeId} {name : String} {r : FuncId × Bool} (h : methT P t name = some r) : ∃ inf m, P.info? t = some inf ∧ inf.methods.find? (·.name == name) = some m ∧ m.path.toList = [] ∧ m.func = some r := by
  simp only [methT, Option.bind_eq_some_iff] at h
  obtain ⟨inf, h1, m, h2, h3⟩ := h
  split at h3
  · rename_i hp
    exact ⟨inf, m, h1, h2, by simpa using hp, h3⟩
  · cases h3

section
variable {P : Program} {w : World} {e : Env} {ty t t2 : TypeId} {x y : Operand} {v u : Value} {L L' B : List (Nat × Obj)}

theorem run_wrapNil {ats : Array TypeId} {a : Addr} {s s' : String} : (Builtin.ssaWrapNilChk_ ats ty #[.pointer (some a), strVal s, strVal s']).run P w = .ok (.pointer (some a)) w := rfl

theorem run_method_val {f : FuncId} {el : TypeId} {a : Addr} {name : String} {n : Nat} (hm : methT P t name = some (f, false)) (ht : P.underlying t = some (.pointer el)) (hp : plainT P el = true) (hc : w.cell? a = some v) :
    (method (n + 1) t (.pointer (some a)) name).run P w = .ok (f, v) w := by
  obtain ⟨inf, m, h1, h2, h3, h4⟩ := methT_spec hm
  have hl := run_loadVar_plain hp hc
  have e1 : m.path = #[] := by apply Array.ext'; simpa using h3
  simp [method, typeInfo, h1, h2, e1, follow, h4, receiverAt, run_underlying ht, Place.get, run_wrapNil, asAddr, hl]

theorem run_method_ptr {f : FuncId} {el : TypeId} {name : String} {n : Nat} (hm : methT P t name = some (f, true)) (ht : P.underlying t = some (.pointer el)) :
    (method (n + 1) t v name).run P w = .ok (f, v) w := by
  obtain ⟨inf, m, h1, h2, h3, h4⟩ := methT_spec hm
  have e1 : m.path = #[] := by apply Array.ext'; simpa using h3
  simp [method, typeInfo, h1, h2, e1, follow, h4, receiverAt, run_underlying ht, Place.get]

theorem run_callMethod {f : FuncId} {rv : Value} {name : String} {args : Array Value} (hm : ∀ n, (method (n + 1) t v name).run P w = .ok (f, rv) w) (hc : ∀ args w, (callFunc f args).run P w = .ok (.enter f args) w) :
    (callMethod (.iface t v) name args).run P w = .ok (.enter f (#[rv] ++ args)) w := by
  have : ∃ n, P.types.size + Made.depth = n + 1 := ⟨P.types.size + Made.depth - 1, by have : Made.depth = 100 := rfl; omega⟩
  obtain ⟨n, hn⟩ := this
  simp only [callMethod, Sem.run_bind, run_program, Result.andThen, hn, hm n, hc]

/-- A call through an interface. -/
theorem Ex.invoke {f : FuncId} {rv : Value} {name : String} {l : List Operand} {vs : List Value} {ats : Array TypeId} {K : Value → World → Prop} (hx : e.val x = some (.iface t v)) (hl : e.vals l = some vs)
    (hm : ∀ n, (method (n + 1) t v name).run P w = .ok (f, rv) w) (hc : ∀ args w, (callFunc f args).run P w = .ok (.enter f args) w) (hs : Does P f (rv :: vs).toArray w K) : Ex P w e (.call ⟨.invoke x name, l.toArray, ats⟩) ty K := .of fun ρ hρ _ _ _ _ => by
  have h1 := Env.vals_map hρ hl
  have h2 := run_callMethod (args := vs.toArray) hm hc
  have h3 : (execOp ρ ⟨‹_›, .call ⟨.invoke x name, l.toArray, ats⟩, ty, ‹_›, ‹_›, ‹_›⟩).run P w = .ok (.enter f (#[rv] ++ vs.toArray)) w := by
    simp only [execOp, resolve, Sem.run_bind, Sem.run_pure, Result.andThen, hρ _ _ hx, List.map_toArray, h1, Go.invoke]
    simp [h2]
  rw [h3]
  have e1 : (#[rv] ++ vs.toArray : Array Value) = (rv :: vs).toArray := by
    apply Array.ext'
    simp
  rw [e1]
  exact hs

/-- 'x.(T)' with ok, where it holds that type. -/
theorem Ev.assertOk {T : TypeId} {d : TypeDesc} (hx : e.val x = some (.iface T v)) (hu : P.underlying T = some d) (hd : (match d with | .interface _ => false | _ => true) = true) : Ev P w e (.typeAssert x t T true) ty (.tuple #[v, .bool true]) := .of fun ρ hρ _ _ _ _ => by
  have h1 := run_underlying (w := w) hu
  simp only [execOp, hρ _ _ hx, Instr.typeAssert, Sem.run_bind, h1, Result.andThen]
  cases d <;> first | (simp; done) | simp at hd

/-! ### Elements of several cells -/

theorem flat_set {α : Type} {g : α → List Value} {sz : Nat} (hg : ∀ x, (g x).length = sz) {xs : List α} {sp : List Value} {i : Nat} (hi : i < xs.length) (y : α) :
    putAt (xs.flatMap g ++ sp).toArray (i * sz) (g y) = ((xs.set i y).flatMap g ++ sp).toArray := by
  have e1 : xs = xs.take i ++ xs[i] :: xs.drop (i + 1) := by
    rw [← List.drop_eq_getElem_cons hi, List.take_append_drop]
  have e2 : xs.set i y = xs.take i ++ y :: xs.drop (i + 1) := List.set_eq_take_append_cons_drop.trans (by rw [if_pos hi])
  rw [e2]
  have e3 : xs.flatMap g ++ sp = (xs.take i).flatMap g ++ g xs[i] ++ ((xs.drop (i + 1)).flatMap g ++ sp) := by
    have := congrArg (fun l => List.flatMap g l ++ sp) e1
    simp only [List.flatMap_append, List.flatMap_cons] at this
    rw [this]
    simp only [List.append_assoc]
  have e4 : (xs.take i ++ y :: xs.drop (i + 1)).flatMap g ++ sp = (xs.take i).flatMap g ++ g y ++ ((xs.drop (i + 1)).flatMap g ++ sp) := by simp [List.flatMap_append]
  rw [e3, e4]
  refine putAt_append ?_ ?_
  · rw [flatMap_length hg, List.length_take, Nat.min_eq_left (by omega)]
  · rw [hg, hg]

/-- An element of a slice of one's own, read. -/
theorem Slc.rdEl {α : Type} {g : α → List Value} {sz : Nat} {T : TypeId} {xs : List α} {b n c : Nat} {a : α} {i : Nat} (h : Slc g sz T (.slice (some ⟨b, 0, none⟩) n c) xs B) (hg : ∀ x, (g x).length = sz) (hi : xs[i]? = some a) :
    ∀ (j : Nat) v, (g a)[j]? = some v → Rd (B ++ L) ⟨b, i * sz + j, none⟩ v := fun j v hj => by
  have hlt : i < xs.length := by
    rcases Nat.lt_or_ge i xs.length with h | h
    · exact h
    · rw [List.getElem?_eq_none h] at hi; cases hi
  obtain ⟨b', cap, sp, fr, e1, rfl, h1, h2, h3⟩ := h.shape (by omega)
  cases e1
  have hjs : j < sz := by
    rcases Nat.lt_or_ge j sz with h | h
    · exact h
    · rw [List.getElem?_eq_none (by rw [hg]; exact h)] at hj; cases hj
  refine Rd.mk (.head _) ?_
  rw [List.getElem?_toArray]
  have hl := flatMap_length hg xs
  have hle : (i + 1) * sz ≤ xs.length * sz := Nat.mul_le_mul_right _ hlt
  rw [Nat.add_mul] at hle
  rw [List.getElem?_append_left (by omega), flatMap_get hg xs i j a hi hjs]
  exact hj

/-- A slice of one's own: where it lies, what may stand behind. -/
theorem Slc.row {α : Type} {g : α → List Value} {sz : Nat} {T : TypeId} {xs : List α} (h : Slc g sz T v xs B) (h0 : 0 < xs.length) : ∃ b c, v = .slice (some ⟨b, 0, none⟩) xs.length c ∧ xs.length ≤ c := by
  obtain ⟨b', cap, sp, fr, e1, _, h1, h2, h3⟩ := h.shape h0
  exact ⟨b', cap, e1, h2⟩

/-- An element of a slice of one's own, written. -/
theorem Ex.storeEl [Strm] {α : Type} {g : α → List Value} {sz : Nat} {T : TypeId} {xs : List α} {b n c : Nat} {a : α} {i : Nat} {B0 : List (Nat × Obj)} (H : SL w (B0 ++ (B ++ L))) (hx : e.val x = some (.pointer (some ⟨b, i * sz, none⟩))) (hy : e.val y = some u) (hu : u.cells = (g a).toArray) (ht : sizeT P t = some sz)
    (hs : Slc g sz T (.slice (some ⟨b, 0, none⟩) n c) xs B) (hg : ∀ x, (g x).length = sz) (hone : ∀ x, ∀ v ∈ g x, v.oneCell' = true) (hi : i < xs.length) :
    Ex P w e (.store t x y) ty fun _ w' => ∃ B', Slc g sz T (.slice (some ⟨b, 0, none⟩) n c) (xs.set i a) B' ∧ SL w' (B0 ++ (B' ++ L)) := by
  obtain ⟨b', cap, sp, fr, e1, rfl, h1, h2, h3⟩ := hs.shape (by omega)
  cases e1
  have hl := flatMap_length hg xs
  have hle : (i + 1) * sz ≤ xs.length * sz := Nat.mul_le_mul_right _ hi
  rw [Nat.add_mul] at hle
  have hle2 : xs.length * sz ≤ c * sz := Nat.mul_le_mul_right _ h2
  refine (Ex.store (cs' := ((xs.set i a).flatMap g ++ sp).toArray) H hx hy ht (Upd.skip .head B0) (by rw [hu]; simp [hg]) (by rw [hu]; simpa using hone a) (by simp only [List.size_toArray, List.length_append]; omega) (h3.sub (by omega)) (by rw [hu]; exact flat_set hg hi a)).mono fun _ w' H' => ?_
  refine ⟨[(b, .cells ((xs.set i a).flatMap g ++ sp).toArray T fr)], ?_, H'⟩
  have := Slc.blk (g := g) (sz := sz) (T := T) b (xs.set i a) c sp fr (by rw [List.length_set]; exact h1) (by rw [List.length_set]; exact h2) h3
  rw [List.length_set] at this
  exact this

/-- A slice of one's own, cut to its first k. -/
theorem Slc.cutTo {α : Type} {g : α → List Value} {sz : Nat} {T : TypeId} {xs : List α} {a : Option Addr} {n c k : Nat} (h : Slc g sz T (.slice a n c) xs B) (hg : ∀ x, (g x).length = sz) (hk : k ≤ xs.length) :
    Slc g sz T (.slice (cutAddr a 0 c sz) (k - 0) (c - 0)) (xs.take k) B := by
  rw [cutAddr_zero, Nat.sub_zero, Nat.sub_zero]
  generalize hv : Value.slice a n c = v at h
  cases h with
  | nil =>
    cases hv
    obtain rfl : k = 0 := by simpa using hk
    exact .nil
  | blk b xs cap spare fr h1 h2 h3 =>
    cases hv
    have hl : (xs.take k).length = k := by rw [List.length_take]; omega
    have hle : k * sz ≤ xs.length * sz := Nat.mul_le_mul_right _ hk
    have e1 : xs.flatMap g = (xs.take k).flatMap g ++ (xs.drop k).flatMap g := by
      conv => lhs; rw [← List.take_append_drop k xs]
      rw [List.flatMap_append]
    have h4 := flatMap_length hg (xs.drop k)
    rw [List.length_drop, Nat.sub_mul] at h4
    have := Slc.blk (g := g) (sz := sz) (T := T) b (xs.take k) c ((xs.drop k).flatMap g ++ spare) fr (by rw [List.length_append, h4, hl]; omega) (by omega) h3
    rw [hl, ← List.append_assoc, ← e1] at this
    exact this

end
end Go.Proofs.YtflfaiakenahlaaGreatDoor.V
end

section
/-
  The library's functions over slices of strings and over maps, walked; a leaf's bytes.
-/
namespace Go.Proofs.YtflfaiakenahlaaGreatDoor.V

theorem take_set_succ {α : Type} {xs : List α} {i : Nat} {a : α} (h : i < xs.length) : (xs.set i a).take (i + 1) = xs.take i ++ [a] := by
  apply List.ext_getElem?
  intro k
  rw [List.getElem?_take, List.getElem?_set]
  rcases Nat.lt_trichotomy k i with h1 | h1 | h1
  · rw [if_pos (by omega), if_neg (by omega), List.getElem?_append_left (by rw [List.length_take]; omega), List.getElem?_take, if_pos h1]
  · subst h1
    rw [if_pos (by omega), if_pos rfl, if_pos h, List.getElem?_append_right (by rw [List.length_take]; omega), List.length_take]
    rw [show k - min k xs.length = 0 by omega]
    rfl
  · rw [if_neg (by omega), List.getElem?_eq_none (by simp; omega)]

theorem Slc.none_eq {α : Type} {g : α → List Value} {sz : Nat} {T : TypeId} {n c : Nat} {xs : List α} {B : List (Nat × Obj)} (h : Slc g sz T (.slice none n c) xs B) : xs = [] ∧ B = [] := by
  generalize hv : Value.slice none n c = v at h
  cases h with
  | nil => exact ⟨rfl, rfl⟩
  | blk b xs cap sp fr => cases hv

/-- A string of a slice of one's own, read. -/
theorem Slc.strAt {T : TypeId} {B L : List (Nat × Obj)} {a : Option Addr} {n c i : Nat} {ss : List (List UInt8)} (h : Slc gT 1 T (.slice a n c) ss B) (hi : i < ss.length) :
    ∃ b, a = some ⟨b, 0, none⟩ ∧ Rd (B ++ L) ⟨b, 0 + i, none⟩ (sV (ss.getD i [])) := by
  cases h with
  | nil => simp at hi
  | blk b xs cap sp fr hc hle ht =>
    refine ⟨b, rfl, Rd.left (Rd.mk (.head _) ?_)⟩
    rw [flatMap_one, Nat.zero_add, List.getElem?_toArray, List.getElem?_append_left (by simpa using hi), map_getD hi]

section
variable {P : Program} {w : World} {e : Env} {ty t : TypeId} {x : Operand} {L B : List (Nat × Obj)}
theorem zeroCells_str (m : Nat) : (Builtin.zeroCells (Value.string .empty).cells m).toList = List.replicate m (sV []) := by
  apply List.ext_getElem
  · rw [zeroCells_len, List.length_replicate]; exact Nat.mul_one m
  · intro i h1 h2
    simp [Builtin.zeroCells, Value.cells, Nat.mod_one]
    rfl

/-- 'clear(s[i:])' of strings of one's own. -/
theorem Ex.clearTail [Strm] {T : TypeId} {b n c i : Nat} {xs : List (List UInt8)} (H : SL w (B ++ L)) (hx : e.val x = some (.slice (cutAddr (some ⟨b, 0, none⟩) i c 1) (n - i) (c - i))) (hs : Slc gT 1 T (.slice (some ⟨b, 0, none⟩) n c) xs B) (hi : i ≤ n)
    (ht : slT P t = some (T, 1)) (hz : zeroT P T = some (.string .empty)) :
    Ex P w e (.call ⟨.builtin .clear, #[x], #[t]⟩) ty fun v' w' => v' = .tuple #[] ∧ ∃ B', Slc gT 1 T (.slice (some ⟨b, 0, none⟩) n c) (xs.take i ++ List.replicate (n - i) []) B' ∧ SL w' (B' ++ L) := .of fun ρ hρ _ _ _ _ => by
  obtain ⟨hu, inf, hin, hsz⟩ := slT_spec ht
  have hz' := hz
  simp only [zeroT, hin, Option.bind_some] at hz'
  generalize hv : Value.slice (some ⟨b, 0, none⟩) n c = v at hs
  cases hs with
  | nil => cases hv
  | blk b' xs cap sp fr h1 h2 h3 =>
    cases hv
    have fin : ∀ v w', (Builtin.clear_ #[t] ty #[v]).run P w = .ok (.tuple #[]) w' → e.val x = some v → ∀ K : Value → World → Prop, K (.tuple #[]) w' →
        Lands P K ((execOp ρ ⟨‹_›, .call ⟨.builtin .clear, #[x], #[t]⟩, ty, ‹_›, ‹_›, ‹_›⟩).run P w) := fun v w' hr hx K hK => by
      have e1 : (execOp ρ ⟨‹_›, .call ⟨.builtin .clear, #[x], #[t]⟩, ty, ‹_›, ‹_›, ‹_›⟩).run P w = .ok (.value (.tuple #[])) w' := by
        simp [execOp, resolve, Go.invoke, builtin, hρ _ _ hx, hr]
      rw [e1]
      exact hK
    by_cases h0 : xs.length - i = 0
    · have hix : xs.length = i := by omega
      have e2 : xs.take i ++ List.replicate (xs.length - i) [] = xs := by rw [h0, List.take_of_length_le (by omega)]; simp
      rw [e2]
      refine fin _ w ?_ hx _ ⟨rfl, _, .blk b xs c sp fr h1 h2 h3, H⟩
      rw [h0]
      cases cutAddr (some ⟨b, 0, none⟩) i c 1 <;> simp [Builtin.clear_, run_underlying hu]
    · have hne : c ≠ i := by omega
      have hca : cutAddr (some ⟨b, 0, none⟩) i c 1 = some ⟨b, i, none⟩ := by
        unfold cutAddr
        rw [if_neg hne]
        simp [add_none]
      rw [hca] at hx
      have hb := H.1 _ (.head _)
      simp only at hb
      have hm : ∃ m, xs.length - i = m + 1 := ⟨xs.length - i - 1, by omega⟩
      have hzl : (Builtin.zeroCells (Value.string .empty).cells (xs.length - i)).toList.length = xs.length - i := by rw [zeroCells_str, List.length_replicate]
      obtain ⟨w', hrun, hw1, hw2, hsame⟩ := run_storeCells (P := P) (b := b) (T := T) (fr := fr) (Builtin.zeroCells (Value.string .empty).cells (xs.length - i)).toList (by
          rw [zeroCells_str]
          intro v hv
          rw [(List.mem_replicate.1 hv).2]
          rfl) w i 0 _ hb (by rw [hzl]; simp only [List.size_toArray, List.length_append, flatMap_one, List.length_map]; omega) (by
          intro j hj1 hj2
          rw [hzl] at hj2
          exact h3.not j (by omega) (by omega))
      refine fin _ w' ?_ hx _ ⟨rfl, [(b, .cells ((xs.take i ++ List.replicate (xs.length - i) []).flatMap gT ++ sp).toArray T fr)], ?_, ?_⟩
      · obtain ⟨m, hm⟩ := hm
        rw [hm] at hrun ⊢
        simp [Builtin.clear_, run_underlying hu, zeroValue, typeInfo, hin, hz', hrun]
      · have hl : (xs.take i ++ List.replicate (xs.length - i) ([] : List UInt8)).length = xs.length := by simp; omega
        have := Slc.blk (g := gT) (sz := 1) (T := T) b (xs.take i ++ List.replicate (xs.length - i) []) c sp fr (by rw [hl]; exact h1) (by omega) h3
        rw [hl] at this
        exact this
      · refine H.upd .head ?_ hw2 hsame
        rw [hw1, Nat.add_zero, zeroCells_str]
        congr 2
        have e1 : xs.flatMap gT = (xs.take i).flatMap gT ++ (xs.drop i).flatMap gT := by
          conv => lhs; rw [← List.take_append_drop i xs]
          rw [List.flatMap_append]
        rw [e1, putAt_append (by rw [flatMap_one, List.length_map, List.length_take]; omega) (by rw [flatMap_one, List.length_map, List.length_drop, List.length_replicate]), List.flatMap_append]
        congr 3
        rw [flatMap_one, List.map_replicate]
end

end Go.Proofs.YtflfaiakenahlaaGreatDoor.V
namespace Go.Proofs.YtflfaiakenahlaaGreatDoor
open Go.Proofs.YtflfaiakenahlaaGreatDoor.V

theorem cloneS_spec [Strm] (v : Value) (ss : List (List UInt8)) (hb : ss.length ≤ 1000000) (B : List (Nat × Obj)) (w : World) (F : List (Nat × Obj)) (hv : Slc gT 1 9 v ss B) (H : SL w (B ++ F)) :
    Does Tryz.prog 51 #[v] w fun r w' => ∃ B', Slc gT 1 9 r ss B' ∧ SL w' (B' ++ (B ++ F)) := by
  obtain ⟨a, c, rfl, hc⟩ := hv.leCap
  refine Does.intro (args := [_]) (e := [(0, _)]) Tryz.func51 rfl Tryz.ntmps51 rfl rfl ?_
  repeat (first | refine .seq ?_ | refine .skip ?_ | refine .block ?_ | refine .inBlock ?_ | refine .yes rfl ?_ | refine .no rfl ?_ | refine .exit rfl ?_)
  repeat (first | refine .seq ?_ | refine .skip ?_ | refine .block ?_ | refine .inBlock ?_ | refine .yes rfl ?_ | refine .no rfl ?_ | refine .exit rfl ?_)
  refine RunsE.region ?_
  refine OpsE.ev (Ev.assign rfl) rfl ?_
  refine OpsE.nil ?_
  cases ha : a with
  | none =>
    subst ha
    obtain ⟨rfl, rfl⟩ := hv.none_eq
    repeat (first | refine .seq ?_ | refine .skip ?_ | refine .block ?_ | refine .inBlock ?_ | refine .yes rfl ?_ | refine .no rfl ?_ | refine .exit rfl ?_)
    refine RunsE.region ?_
    refine OpsE.ev (Ev.move rfl) rfl ?_
    refine OpsE.ev (Ev.slNilEq (el := 9) rfl rfl Tryz.underlying51) rfl ?_
    refine OpsE.nil ?_
    repeat (first | refine .seq ?_ | refine .skip ?_ | refine .block ?_ | refine .inBlock ?_ | refine .yes rfl ?_ | refine .no rfl ?_ | refine .exit rfl ?_)
    repeat (first | refine .seq ?_ | refine .skip ?_ | refine .block ?_ | refine .inBlock ?_ | refine .yes rfl ?_ | refine .no rfl ?_ | refine .exit rfl ?_)
    refine RunsE.region ?_
    refine OpsE.ev (Ev.assign rfl) rfl ?_
    refine OpsE.nil ?_
    repeat (first | refine .seq ?_ | refine .skip ?_ | refine .block ?_ | refine .inBlock ?_ | refine .yes rfl ?_ | refine .no rfl ?_ | refine .exit rfl ?_)
    exact RunsE.ret1 Tryz.func51 rfl rfl ⟨[], .nil, H⟩
  | some ad =>
    subst ha
    repeat (first | refine .seq ?_ | refine .skip ?_ | refine .block ?_ | refine .inBlock ?_ | refine .yes rfl ?_ | refine .no rfl ?_ | refine .exit rfl ?_)
    refine RunsE.region ?_
    refine OpsE.ev (Ev.move rfl) rfl ?_
    refine OpsE.ev (Ev.slNilEq (el := 9) rfl rfl Tryz.underlying51) rfl ?_
    refine OpsE.nil ?_
    repeat (first | refine .seq ?_ | refine .skip ?_ | refine .block ?_ | refine .inBlock ?_ | refine .yes rfl ?_ | refine .no rfl ?_ | refine .exit rfl ?_)
    repeat (first | refine .seq ?_ | refine .skip ?_ | refine .block ?_ | refine .inBlock ?_ | refine .yes rfl ?_ | refine .no rfl ?_ | refine .exit rfl ?_)
    refine RunsE.region ?_
    refine OpsE.ex (Ex.buildSl0 (sz := 1) (T := 9) H (by kernel_rfl)) rfl ?_; (try clear H); rintro _ w ⟨b5, rfl, H⟩
    refine OpsE.ev (Ev.move rfl) rfl ?_
    refine OpsE.ex (Ex.append (T := 9) (g := gT) (by_ := 16) (zv := .string .empty) (xs := []) (ys := ss) (B := [(b5, .cells #[] 9 (0, 0))]) H rfl rfl (Slc.lit0 b5) (Src.own (fun _ => rfl) hv H (fun p hp => by simp [hp])) (fun _ => rfl) (by simp [Value.oneCell']) (by kernel_rfl) (by kernel_rfl) (by kernel_rfl) (by kernel_rfl) rfl (by simp only [List.length_nil]; omega) (by simp only [List.length_nil]; omega)) rfl ?_; (try clear H); rintro v' w ⟨B', hs', H⟩
    refine OpsE.ev (Ev.assign rfl) rfl ?_
    refine OpsE.nil ?_
    repeat (first | refine .seq ?_ | refine .skip ?_ | refine .block ?_ | refine .inBlock ?_ | refine .yes rfl ?_ | refine .no rfl ?_ | refine .exit rfl ?_)
    exact RunsE.ret1 Tryz.func51 rfl rfl ⟨B', hs', H⟩

theorem indexF_spec [Strm] (v : Value) (ss : List (List UInt8)) (del : List UInt8 → Bool) (kf : FuncId) (cap : Array Value) (hb : ss.length ≤ 1000000) (B : List (Nat × Obj)) (w : World) (F : List (Nat × Obj)) (hv : Slc gT 1 9 v ss B)
    (eg : ∀ args w, (callFunc kf args).run Tryz.prog w = .ok (.enter kf args) w)
    (hk : ∀ s ∈ ss, ∀ w B, SL w (B ++ F) → Does Tryz.prog kf (#[] ++ [sV s].toArray ++ cap) w fun r w' => r = .bool (del s) ∧ SL w' (B ++ F)) (H : SL w (B ++ F)) :
    Does Tryz.prog 83 #[v, .func (.func kf) #[] cap] w fun r w' => (∃ i : Int, r = .int .i64 i ∧ ((i = -1 ∧ ∀ s ∈ ss, del s = false) ∨ ∃ n : Nat, i = (n : Int) ∧ n < ss.length ∧ (∀ s ∈ ss.take n, del s = false) ∧ del (ss.getD n []) = true)) ∧ SL w' (B ++ F) := by
  obtain ⟨a, c, rfl, hc⟩ := hv.leCap
  refine Does.intro (args := [_, _]) (e := [(0, _), (1, _)]) Tryz.func83 rfl Tryz.ntmps83 rfl rfl ?_
  repeat (first | refine .seq ?_ | refine .skip ?_ | refine .block ?_ | refine .inBlock ?_ | refine .yes rfl ?_ | refine .no rfl ?_ | refine .exit rfl ?_)
  repeat (first | refine .seq ?_ | refine .skip ?_ | refine .block ?_ | refine .inBlock ?_ | refine .yes rfl ?_ | refine .no rfl ?_ | refine .exit rfl ?_)
  refine RunsE.region ?_
  refine OpsE.ev (Ev.assign rfl) rfl ?_
  refine OpsE.nil ?_
  repeat (first | refine .seq ?_ | refine .skip ?_ | refine .block ?_ | refine .inBlock ?_ | refine .yes rfl ?_ | refine .no rfl ?_ | refine .exit rfl ?_)
  refine RunsE.region ?_
  refine OpsE.ev (Ev.move rfl) rfl ?_
  refine OpsE.ev (Ev.lenSl (d := 9) rfl rfl (by kernel_rfl)) rfl ?_
  refine OpsE.ev (Ev.move rfl) rfl ?_
  refine OpsE.nil ?_
  repeat refine RunsE.seq ?_
  refine RunsE.join (fun _ : Unit => []) (fun _ w => (∀ s ∈ ss, del s = false) ∧ SL w (B ++ F)) (fun next => ?_) ?_
  · refine RunsE.block ?_
    refine RunsE.loop (fun i : Nat => [(0, .slice a ss.length c), (1, .func (.func kf) #[] cap), (7, .int .i64 (ss.length : Int)), (8, .int .i64 (i : Int))])
      (fun i w => i ≤ ss.length ∧ (∀ s ∈ ss.take i, del s = false) ∧ SL w (B ++ F)) (fun i => ss.length - i) 0 ⟨rfl, rfl, rfl, rfl, trivial⟩ ⟨by omega, by simp, H⟩ ?_
    clear H
    rintro i w ⟨hi, hd, H⟩ nextL
    by_cases h1 : i = ss.length
    ·
      repeat (first | refine .seq ?_ | refine .skip ?_ | refine .block ?_ | refine .inBlock ?_ | refine .yes rfl ?_ | refine .no rfl ?_ | refine .exit rfl ?_)
      refine RunsE.region ?_
      refine OpsE.ev (Ev.lss (r := false) rfl rfl (decide_eq_false (by omega))) rfl ?_
      refine OpsE.nil ?_
      repeat refine RunsE.seq ?_
      refine RunsE.no rfl ?_
      refine RunsE.exit rfl ?_
      exact next () _ _ ⟨by rw [h1, List.take_length] at hd; exact hd, H⟩ trivial
    · clear next
      obtain ⟨b, rfl, hr⟩ := hv.strAt (L := F) (i := i) (by omega)
      have hmem : ss.getD i [] ∈ ss := getD_mem (by omega)
      repeat (first | refine .seq ?_ | refine .skip ?_ | refine .block ?_ | refine .inBlock ?_ | refine .yes rfl ?_ | refine .no rfl ?_ | refine .exit rfl ?_)
      refine RunsE.region ?_
      refine OpsE.ev (Ev.lss (r := true) rfl rfl (decide_eq_true (by omega))) rfl ?_
      refine OpsE.nil ?_
      repeat (first | refine .seq ?_ | refine .skip ?_ | refine .block ?_ | refine .inBlock ?_ | refine .yes rfl ?_ | refine .no rfl ?_ | refine .exit rfl ?_)
      repeat (first | refine .seq ?_ | refine .skip ?_ | refine .block ?_ | refine .inBlock ?_ | refine .yes rfl ?_ | refine .no rfl ?_ | refine .exit rfl ?_)
      refine RunsE.region ?_
      refine OpsE.ev (Ev.move rfl) rfl ?_
      refine OpsE.ev (Ev.assign rfl) rfl ?_
      refine OpsE.nil ?_
      repeat (first | refine .seq ?_ | refine .skip ?_ | refine .block ?_ | refine .inBlock ?_ | refine .yes rfl ?_ | refine .no rfl ?_ | refine .exit rfl ?_)
      refine RunsE.region ?_
      refine OpsE.ev (Ev.move rfl) rfl ?_
      refine OpsE.ev (Ev.move rfl) rfl ?_
      refine OpsE.ev (Ev.move rfl) rfl ?_
      refine OpsE.ev (Ev.iaSl (n := 9) (sz := 1) (m := i) (o := 0 + i) rfl rfl rfl (by kernel_rfl) (by omega) (by rw [Nat.mul_one])) rfl ?_
      refine OpsE.ev (Ev.load H rfl (by kernel_rfl) hr) rfl ?_
      refine OpsE.ex (Ex.callv rfl rfl eg (hk _ hmem w B H)) rfl ?_; (try clear H); rintro _ w ⟨rfl, H⟩
      refine OpsE.nil ?_
      by_cases h2 : del (ss.getD i []) = true
      · repeat refine RunsE.seq ?_
        refine RunsE.yes (by rw [h2]; rfl) ?_
        repeat (first | refine .seq ?_ | refine .skip ?_ | refine .block ?_ | refine .inBlock ?_ | refine .yes rfl ?_ | refine .no rfl ?_ | refine .exit rfl ?_)
        refine RunsE.region ?_
        refine OpsE.ev (Ev.move rfl) rfl ?_
        refine OpsE.ev (Ev.assign rfl) rfl ?_
        refine OpsE.nil ?_
        repeat (first | refine .seq ?_ | refine .skip ?_ | refine .block ?_ | refine .inBlock ?_ | refine .yes rfl ?_ | refine .no rfl ?_ | refine .exit rfl ?_)
        exact RunsE.ret1 Tryz.func83 rfl rfl ⟨⟨_, rfl, .inr ⟨i, rfl, by omega, hd, h2⟩⟩, H⟩
      · have h2 : del (ss.getD i []) = false := by simpa using h2
        repeat refine RunsE.seq ?_
        refine RunsE.no (by rw [h2]; rfl) ?_
        repeat (first | refine .seq ?_ | refine .skip ?_ | refine .block ?_ | refine .inBlock ?_ | refine .yes rfl ?_ | refine .no rfl ?_ | refine .exit rfl ?_)
        refine RunsE.region ?_
        refine OpsE.ev (Ev.add rfl rfl) rfl ?_
        refine OpsE.ev (Ev.move rfl) rfl ?_
        refine OpsE.nil ?_
        refine nextL (i + 1) _ _ (by omega) ⟨by omega, ?_, H⟩ ⟨rfl, rfl, rfl, rfl, trivial⟩
        rw [take_succD (d := []) (by omega)]
        intro s hs
        rcases List.mem_append.1 hs with h | h
        · exact hd s h
        · rw [List.mem_singleton] at h; rw [h]; exact h2
  · clear H
    rintro _ w ⟨hd, H⟩
    repeat (first | refine .seq ?_ | refine .skip ?_ | refine .block ?_ | refine .inBlock ?_ | refine .yes rfl ?_ | refine .no rfl ?_ | refine .exit rfl ?_)
    refine RunsE.region ?_
    refine OpsE.ev (Ev.assign rfl) rfl ?_
    refine OpsE.nil ?_
    repeat (first | refine .seq ?_ | refine .skip ?_ | refine .block ?_ | refine .inBlock ?_ | refine .yes rfl ?_ | refine .no rfl ?_ | refine .exit rfl ?_)
    exact RunsE.ret1 Tryz.func83 rfl rfl ⟨⟨_, rfl, .inl ⟨rfl, hd⟩⟩, H⟩

set_option maxHeartbeats 1000000 in
theorem deleteF_spec [Strm] (v : Value) (ss : List (List UInt8)) (del : List UInt8 → Bool) (kf : FuncId) (cap : Array Value) (hb : ss.length ≤ 1000000) (B : List (Nat × Obj)) (w : World) (F : List (Nat × Obj)) (hv : Slc gT 1 9 v ss B)
    (eg : ∀ args w, (callFunc kf args).run Tryz.prog w = .ok (.enter kf args) w)
    (hk : ∀ s ∈ ss, ∀ w B, SL w (B ++ F) → Does Tryz.prog kf (#[] ++ [sV s].toArray ++ cap) w fun r w' => r = .bool (del s) ∧ SL w' (B ++ F)) (H : SL w (B ++ F)) :
    Does Tryz.prog 50 #[v, .func (.func kf) #[] cap] w fun r w' => ∃ B', Slc gT 1 9 r (ss.filter fun s => !del s) B' ∧ SL w' (B' ++ F) := by
  obtain ⟨a, c, rfl, hc⟩ := hv.leCap
  refine Does.intro (args := [_, _]) (e := [(0, _), (1, _)]) Tryz.func50 rfl Tryz.ntmps50 rfl rfl ?_
  repeat (first | refine .seq ?_ | refine .skip ?_ | refine .block ?_ | refine .inBlock ?_ | refine .yes rfl ?_ | refine .no rfl ?_ | refine .exit rfl ?_)
  repeat (first | refine .seq ?_ | refine .skip ?_ | refine .block ?_ | refine .inBlock ?_ | refine .yes rfl ?_ | refine .no rfl ?_ | refine .exit rfl ?_)
  refine RunsE.region ?_
  refine OpsE.ev (Ev.assign rfl) rfl ?_
  refine OpsE.nil ?_
  repeat (first | refine .seq ?_ | refine .skip ?_ | refine .block ?_ | refine .inBlock ?_ | refine .yes rfl ?_ | refine .no rfl ?_ | refine .exit rfl ?_)
  refine RunsE.region ?_
  refine OpsE.ev (Ev.move rfl) rfl ?_
  refine OpsE.ev (Ev.move rfl) rfl ?_
  refine OpsE.ex (Ex.call rfl Tryz.call83 (indexF_spec _ ss del kf cap hb B w F hv eg hk H)) rfl ?_; (try clear H); rintro _ w ⟨⟨i, rfl, hidx⟩, H⟩
  refine OpsE.ev (Ev.assign rfl) rfl ?_
  refine OpsE.nil ?_
  rcases hidx with ⟨rfl, hall⟩ | ⟨n, rfl, hn, hpre, hat⟩
  ·
    repeat (first | refine .seq ?_ | refine .skip ?_ | refine .block ?_ | refine .inBlock ?_ | refine .yes rfl ?_ | refine .no rfl ?_ | refine .exit rfl ?_)
    refine RunsE.region ?_
    refine OpsE.ev (Ev.move rfl) rfl ?_
    refine OpsE.ev (Ev.eql (r := true) rfl rfl rfl) rfl ?_
    refine OpsE.nil ?_
    repeat (first | refine .seq ?_ | refine .skip ?_ | refine .block ?_ | refine .inBlock ?_ | refine .yes rfl ?_ | refine .no rfl ?_ | refine .exit rfl ?_)
    repeat (first | refine .seq ?_ | refine .skip ?_ | refine .block ?_ | refine .inBlock ?_ | refine .yes rfl ?_ | refine .no rfl ?_ | refine .exit rfl ?_)
    refine RunsE.region ?_
    refine OpsE.ev (Ev.move rfl) rfl ?_
    refine OpsE.ev (Ev.assign rfl) rfl ?_
    refine OpsE.nil ?_
    repeat (first | refine .seq ?_ | refine .skip ?_ | refine .block ?_ | refine .inBlock ?_ | refine .yes rfl ?_ | refine .no rfl ?_ | refine .exit rfl ?_)
    have e1 : (ss.filter fun s => !del s) = ss := by
      rw [List.filter_eq_self]
      intro s hs
      rw [hall s hs]; rfl
    rw [e1]
    exact RunsE.ret1 Tryz.func50 rfl rfl ⟨B, hv, H⟩
  repeat (first | refine .seq ?_ | refine .skip ?_ | refine .block ?_ | refine .inBlock ?_ | refine .yes rfl ?_ | refine .no rfl ?_ | refine .exit rfl ?_)
  refine RunsE.region ?_
  refine OpsE.ev (Ev.move rfl) rfl ?_
  refine OpsE.ev (Ev.eql (r := false) rfl rfl (beq_eq_false_iff_ne.2 (by omega))) rfl ?_
  refine OpsE.nil ?_
  repeat (first | refine .seq ?_ | refine .skip ?_ | refine .block ?_ | refine .inBlock ?_ | refine .yes rfl ?_ | refine .no rfl ?_ | refine .exit rfl ?_)
  repeat (first | refine .seq ?_ | refine .skip ?_ | refine .block ?_ | refine .inBlock ?_ | refine .yes rfl ?_ | refine .no rfl ?_ | refine .exit rfl ?_)
  refine RunsE.region ?_
  refine OpsE.ev (Ev.move rfl) rfl ?_
  refine OpsE.ev (Ev.add rfl rfl) rfl ?_
  refine OpsE.ev (Ev.assign rfl) rfl ?_
  refine OpsE.nil ?_
  obtain ⟨b, rfl⟩ : ∃ b, a = some ⟨b, 0, none⟩ := by
    obtain ⟨b, rfl, _⟩ := hv.strAt (L := F) hn
    exact ⟨b, rfl⟩
  repeat refine RunsE.seq ?_
  refine RunsE.join (fun s : Nat => [(0, .slice (some ⟨b, 0, none⟩) ss.length c), (5, .int .i64 (s : Int))])
    (fun s w => s ≤ ss.length ∧ ∃ xs B, xs.length = ss.length ∧ xs.take s = (ss.filter fun s => !del s) ∧ Slc gT 1 9 (.slice (some ⟨b, 0, none⟩) ss.length c) xs B ∧ SL w (B ++ F)) (fun next => ?_) ?_
  · refine RunsE.block ?_
    refine RunsE.loop (fun s : Nat × Nat => [(0, .slice (some ⟨b, 0, none⟩) ss.length c), (1, .func (.func kf) #[] cap), (5, .int .i64 (s.1 : Int)), (6, .int .i64 (s.2 : Int))])
      (fun s w => s.1 ≤ s.2 ∧ s.2 ≤ ss.length ∧ ∃ xs B, xs.length = ss.length ∧ xs.take s.1 = ((ss.take s.2).filter fun s => !del s) ∧ (∀ k, s.2 ≤ k → xs[k]? = ss[k]?) ∧ Slc gT 1 9 (.slice (some ⟨b, 0, none⟩) ss.length c) xs B ∧ SL w (B ++ F))
      (fun s => ss.length - s.2) (n, n + 1) ⟨rfl, rfl, rfl, rfl, trivial⟩ ⟨by simp only; omega, by simp only; omega, ss, B, rfl, ?_, fun _ _ => rfl, hv, H⟩ ?_
    · simp only
      rw [take_succD (d := []) hn, List.filter_append]
      have e1 : ((ss.take n).filter fun s => !del s) = ss.take n := by
        rw [List.filter_eq_self]
        intro s hs
        rw [hpre s hs]; rfl
      rw [e1]
      rw [List.filter_cons, hat]
      simp
    clear H hv
    rintro ⟨i, j⟩ w ⟨hij, hj, xs, B, hxl, hxt, hxd, hv, H⟩ nextL
    simp only at hij hj hxt hxd
    by_cases h1 : j = ss.length
    ·
      repeat (first | refine .seq ?_ | refine .skip ?_ | refine .block ?_ | refine .inBlock ?_ | refine .yes rfl ?_ | refine .no rfl ?_ | refine .exit rfl ?_)
      refine RunsE.region ?_
      refine OpsE.ev (Ev.move rfl) rfl ?_
      refine OpsE.ev (Ev.move rfl) rfl ?_
      refine OpsE.ev (Ev.lenSl (d := 9) rfl rfl (by kernel_rfl)) rfl ?_
      refine OpsE.ev (Ev.lss (r := false) rfl rfl (decide_eq_false (by simp only; omega))) rfl ?_
      refine OpsE.nil ?_
      repeat refine RunsE.seq ?_
      refine RunsE.no rfl ?_
      refine RunsE.exit rfl ?_
      rw [h1, List.take_length] at hxt
      exact next i _ _ ⟨by omega, xs, B, hxl, hxt, hv, H⟩ ⟨rfl, rfl, trivial⟩
    · clear next
      obtain ⟨b', e0, hr⟩ := hv.strAt (L := F) (i := j) (by omega)
      cases e0
      have hg : xs.getD j [] = ss.getD j [] := by rw [List.getD_eq_getElem?_getD, List.getD_eq_getElem?_getD, hxd j (Nat.le_refl _)]
      rw [hg] at hr
      have hmem : ss.getD j [] ∈ ss := getD_mem (by omega)
      repeat (first | refine .seq ?_ | refine .skip ?_ | refine .block ?_ | refine .inBlock ?_ | refine .yes rfl ?_ | refine .no rfl ?_ | refine .exit rfl ?_)
      refine RunsE.region ?_
      refine OpsE.ev (Ev.move rfl) rfl ?_
      refine OpsE.ev (Ev.move rfl) rfl ?_
      refine OpsE.ev (Ev.lenSl (d := 9) rfl rfl (by kernel_rfl)) rfl ?_
      refine OpsE.ev (Ev.lss (r := true) rfl rfl (decide_eq_true (by simp only; omega))) rfl ?_
      refine OpsE.nil ?_
      repeat (first | refine .seq ?_ | refine .skip ?_ | refine .block ?_ | refine .inBlock ?_ | refine .yes rfl ?_ | refine .no rfl ?_ | refine .exit rfl ?_)
      repeat (first | refine .seq ?_ | refine .skip ?_ | refine .block ?_ | refine .inBlock ?_ | refine .yes rfl ?_ | refine .no rfl ?_ | refine .exit rfl ?_)
      refine RunsE.region ?_
      refine OpsE.ev (Ev.move rfl) rfl ?_
      refine OpsE.ev (Ev.move rfl) rfl ?_
      refine OpsE.ev (Ev.iaSl (n := 9) (sz := 1) (m := j) (o := 0 + j) rfl rfl rfl (by kernel_rfl) (by omega) (by rw [Nat.mul_one])) rfl ?_
      refine OpsE.ev (Ev.load H rfl (by kernel_rfl) hr) rfl ?_
      refine OpsE.ev (Ev.assign rfl) rfl ?_
      refine OpsE.nil ?_
      repeat (first | refine .seq ?_ | refine .skip ?_ | refine .block ?_ | refine .inBlock ?_ | refine .yes rfl ?_ | refine .no rfl ?_ | refine .exit rfl ?_)
      refine RunsE.region ?_
      refine OpsE.ev (Ev.move rfl) rfl ?_
      refine OpsE.ev (Ev.move rfl) rfl ?_
      refine OpsE.ex (Ex.callv rfl rfl eg (hk _ hmem w B H)) rfl ?_; (try clear H); rintro _ w ⟨rfl, H⟩
      refine OpsE.ev (Ev.not rfl) rfl ?_
      refine OpsE.nil ?_
      by_cases h2 : del (ss.getD j []) = true
      · repeat refine RunsE.seq ?_
        refine RunsE.no (by rw [h2]; rfl) ?_
        repeat (first | refine .seq ?_ | refine .skip ?_ | refine .block ?_ | refine .inBlock ?_ | refine .yes rfl ?_ | refine .no rfl ?_ | refine .exit rfl ?_)
        refine RunsE.region ?_
        refine OpsE.ev (Ev.move rfl) rfl ?_
        refine OpsE.ev (Ev.add rfl rfl) rfl ?_
        refine OpsE.ev (Ev.assign rfl) rfl ?_
        refine OpsE.nil ?_
        refine nextL (i, j + 1) _ _ (by simp only; omega) ⟨by simp only; omega, by simp only; omega, xs, B, hxl, ?_, fun k hk => hxd k (by simp only at hk; omega), hv, H⟩ ⟨rfl, rfl, rfl, rfl, trivial⟩
        simp only
        rw [take_succD (d := []) (by omega), List.filter_append, ← hxt, List.filter_cons, h2]
        simp
      · have h2 : del (ss.getD j []) = false := by simpa using h2
        repeat refine RunsE.seq ?_
        refine RunsE.yes (by rw [h2]; rfl) ?_
        repeat (first | refine .seq ?_ | refine .skip ?_ | refine .block ?_ | refine .inBlock ?_ | refine .yes rfl ?_ | refine .no rfl ?_ | refine .exit rfl ?_)
        refine RunsE.region ?_
        refine OpsE.ev (Ev.move rfl) rfl ?_
        refine OpsE.ev (Ev.move rfl) rfl ?_
        refine OpsE.ev (Ev.move rfl) rfl ?_
        refine OpsE.ev (Ev.iaSl (n := 9) (sz := 1) (m := i) (o := i * 1) rfl rfl rfl (by kernel_rfl) (by omega) (by omega)) rfl ?_
        refine OpsE.exn (Ex.storeEl (B0 := []) (g := gT) (sz := 1) (a := ss.getD j []) (i := i) H rfl rfl rfl (by kernel_rfl) hv (fun _ => rfl) (by simp [Value.oneCell']) (by omega)) ?_; (try clear H); rintro _ w ⟨B, hv, H⟩
        refine OpsE.nil ?_
        repeat (first | refine .seq ?_ | refine .skip ?_ | refine .block ?_ | refine .inBlock ?_ | refine .yes rfl ?_ | refine .no rfl ?_ | refine .exit rfl ?_)
        refine RunsE.region ?_
        refine OpsE.ev (Ev.move rfl) rfl ?_
        refine OpsE.ev (Ev.add rfl rfl) rfl ?_
        refine OpsE.ev (Ev.assign rfl) rfl ?_
        refine OpsE.nil ?_
        repeat (first | refine .seq ?_ | refine .skip ?_ | refine .block ?_ | refine .inBlock ?_ | refine .yes rfl ?_ | refine .no rfl ?_ | refine .exit rfl ?_)
        refine RunsE.region ?_
        refine OpsE.ev (Ev.move rfl) rfl ?_
        refine OpsE.ev (Ev.add rfl rfl) rfl ?_
        refine OpsE.ev (Ev.assign rfl) rfl ?_
        refine OpsE.nil ?_
        refine nextL (i + 1, j + 1) _ _ (by simp only; omega) ⟨by simp only; omega, by simp only; omega, xs.set i (ss.getD j []), B, by rw [List.length_set]; exact hxl, ?_, ?_, hv, H⟩ ⟨rfl, rfl, rfl, rfl, trivial⟩
        · simp only
          rw [take_succD (d := []) (l := ss) (by omega), List.filter_append, ← hxt, take_set_succ (by omega), List.filter_cons, h2]
          simp
        · intro k hk
          simp only at hk
          rw [List.getElem?_set, if_neg (by omega)]
          exact hxd k (by omega)
  · clear H hv
    rintro i w ⟨hi, xs, B, hxl, hxt, hv, H⟩
    repeat (first | refine .seq ?_ | refine .skip ?_ | refine .block ?_ | refine .inBlock ?_ | refine .yes rfl ?_ | refine .no rfl ?_ | refine .exit rfl ?_)
    refine RunsE.region ?_
    refine OpsE.ev (Ev.move rfl) rfl ?_
    refine OpsE.ev (Ev.move rfl) rfl ?_
    refine OpsE.ev (Ev.slSl (el := 9) (sz := 1) (l := i) rfl (by kernel_rfl) (⟨_, rfl⟩) (rfl) (by omega) (by omega)) rfl ?_
    refine OpsE.exn (Ex.clearTail H rfl hv hi (by kernel_rfl) (by kernel_rfl)) ?_; (try clear H); rintro _ w ⟨_, B', hv', H⟩
    refine OpsE.nil ?_
    repeat (first | refine .seq ?_ | refine .skip ?_ | refine .block ?_ | refine .inBlock ?_ | refine .yes rfl ?_ | refine .no rfl ?_ | refine .exit rfl ?_)
    refine RunsE.region ?_
    refine OpsE.ev (Ev.move rfl) rfl ?_
    refine OpsE.ev (Ev.move rfl) rfl ?_
    refine OpsE.ev (Ev.slSl (el := 9) (sz := 1) (h := i) rfl (by kernel_rfl) (rfl) (⟨_, rfl⟩) (by omega) (by omega)) rfl ?_
    refine OpsE.ev (Ev.assign rfl) rfl ?_
    refine OpsE.nil ?_
    repeat (first | refine .seq ?_ | refine .skip ?_ | refine .block ?_ | refine .inBlock ?_ | refine .yes rfl ?_ | refine .no rfl ?_ | refine .exit rfl ?_)
    have h3 := hv'.cutTo (k := i) (fun _ => rfl) (by simp; omega)
    have e1 : (xs.take i ++ List.replicate (ss.length - i) ([] : List UInt8)).take i = (ss.filter fun s => !del s) := by
      rw [List.take_append_of_le_length (by rw [List.length_take]; omega), List.take_take, Nat.min_self, hxt]
    rw [e1] at h3
    exact RunsE.ret1 Tryz.func50 rfl rfl ⟨B', h3, H⟩

end Go.Proofs.YtflfaiakenahlaaGreatDoor
end

section
/-
  The library's functions over maps, walked: Keys, Collect, Sorted, Clone.
-/
namespace Go.Proofs.YtflfaiakenahlaaGreatDoor.V
section
variable {P : Program} {f : FuncId} {k : List Item} {w : World} {n : Nat} {e : Env} {L L' : List (Nat × Obj)}
/-- A result behind a range over a function. -/
theorem RunsE.ret1M [Strm] {Post : Value → World → Prop} {fn : Func} {t D : Nat} {v : Value} (H : SL w L) (hu : Upd D (.deferred (some [])) (.deferred none) L L') (hf : P.funcs[f]? = some fn)
    (hr : fn.results = #[.tmp t]) (ht : e.get t = some v) (h : ∀ w', SL w' L' → Post v w') :
    RunsE P ⟨f, none, [{ target := .collected D, args := #[] }]⟩ (fun ev w' => ∃ v, ev = .returned v ∧ Post v w') n (.code .ret :: k) e w := .of fun a ha => by
  have H' : SL (w.putObj D (.deferred none)) L' := H.put hu
  refine .retMark hf ha.defers (run_takeDeferred (H.1 _ hu.mem)) (v := v) ?_ ⟨_, rfl, h _ H'⟩
  rw [results_tmp hr]
  simp [ha.vals t _ ht]

theorem Fits.one {n a : Nat} {e : Env} {tmps : Array Value} (h : Fits [] n e { tmps := tmps, defers := [] }) (ha : Nat.blt a n = true) (x : Value) :
    Fits [] n ((a, x) :: e) { tmps := ((#[a] : Array Tmp).zip [x].toArray).foldl (fun tmps (t, v) => tmps.setIfInBounds t v) tmps, defers := [] } := by
  have h1 := h.setSlot ha x
  simpa using h1
end

section
variable {w : World} {x y z : Nat × Obj} {A F : List (Nat × Obj)}
theorem SL.in1 [Strm] (h : SL w (y :: x :: (A ++ F))) : SL w (y :: (A ++ x :: F)) := h.perm (List.perm_middle.cons y)
theorem SL.out1 [Strm] (h : SL w (y :: (A ++ x :: F))) : SL w (y :: x :: (A ++ F)) := h.perm (List.perm_middle.symm.cons y)
theorem SL.mid2 [Strm] (h : SL w (x :: y :: (A ++ F))) : SL w (A ++ (x :: y :: F)) := h.perm ((List.perm_middle (l₁ := A) (a := x)).trans ((List.perm_middle (l₁ := A) (a := y)).cons x))
end

/-- The function gf, over the block c, hands each of ks0 on, once, in some order. -/
def ItK [Strm] (P : Program) (gf : FuncId) (c : Nat) (ks0 : List (List UInt8)) (X : List (Nat × Obj)) : Prop :=
  ∀ (r : Loop) (l : Nat) (Inv : List (List UInt8) → List (Nat × Obj) → Prop) (B0 Z : List (Nat × Obj)), r.params.size = 1 → Inv [] B0 →
    (∀ Y done k w B, Inv done B → done.length < ks0.length → SL w ((l, .loop r) :: (B ++ (Y ++ (Z ++ X)))) → Round P l r.fn ((r.params.zip [sV k].toArray).foldl (fun tmps (t, a) => tmps.setIfInBounds t a) r.tmps) r.assign r.body w
      fun v w' => v = .bool true ∧ ∃ B', Inv (done ++ [k]) B' ∧ SL w' ((l, .loop r) :: (B' ++ (Y ++ (Z ++ X))))) →
    ∀ w, SL w ((l, .loop r) :: (B0 ++ (Z ++ X))) → Does P gf #[.func (.yield l) #[] #[], .pointer (some ⟨c, 0, none⟩)] w fun _ w' => ∃ ks B, ks.Perm ks0 ∧ Inv ks B ∧ SL w' ((l, .loop r) :: (B ++ (Z ++ X)))

end Go.Proofs.YtflfaiakenahlaaGreatDoor.V
namespace Go.Proofs.YtflfaiakenahlaaGreatDoor
open Go.Proofs.YtflfaiakenahlaaGreatDoor.V

theorem mapCh : MapSP Tryz.prog 105 9 53 := ⟨Tryz.underlying105, Tryz.underlying9⟩
theorem mapLf : MapSP Tryz.prog 82 9 117 := ⟨Tryz.underlying82, Tryz.underlying9⟩

theorem keysCh_spec [Strm] (m : Nat) (w : World) (F : List (Nat × Obj)) (H : SL w F) :
    Does Tryz.prog 49 #[.map (some m)] w fun r w' => ∃ c, r = .func (.func 82) #[] #[.pointer (some ⟨c, 0, none⟩)] ∧ SL w' ((c, .cells #[.map (some m)] 105 (0, 0)) :: F) := by
  refine Does.intro (args := [_]) (e := [(0, _)]) Tryz.func49 rfl Tryz.ntmps49 rfl rfl ?_
  repeat (first | refine .seq ?_ | refine .skip ?_ | refine .block ?_ | refine .inBlock ?_ | refine .yes rfl ?_ | refine .no rfl ?_ | refine .exit rfl ?_)
  repeat (first | refine .seq ?_ | refine .skip ?_ | refine .block ?_ | refine .inBlock ?_ | refine .yes rfl ?_ | refine .no rfl ?_ | refine .exit rfl ?_)
  refine RunsE.region ?_
  refine OpsE.ex (Ex.box H rfl) rfl ?_; (try clear H); rintro _ w ⟨b1, rfl, H⟩; simp only [Value.cells] at H
  refine OpsE.ev (Ev.assign rfl) rfl ?_
  refine OpsE.nil ?_
  repeat (first | refine .seq ?_ | refine .skip ?_ | refine .block ?_ | refine .inBlock ?_ | refine .yes rfl ?_ | refine .no rfl ?_ | refine .exit rfl ?_)
  refine RunsE.region ?_
  refine OpsE.ev (Ev.makeFunc rfl rfl) rfl ?_
  refine OpsE.ev (Ev.assign rfl) rfl ?_
  refine OpsE.nil ?_
  repeat (first | refine .seq ?_ | refine .skip ?_ | refine .block ?_ | refine .inBlock ?_ | refine .yes rfl ?_ | refine .no rfl ?_ | refine .exit rfl ?_)
  exact RunsE.ret1 Tryz.func49 rfl rfl ⟨_, rfl, H⟩

set_option maxHeartbeats 1000000 in
theorem keysitCh_spec [Strm] (c m : Nat) (om : Obj) (kvs : List KV) (X : List (Nat × Obj)) (hc : Rd X ⟨c, 0, none⟩ (.map (some m))) (hm : (m, om) ∈ X) (ho : Mp om kvs) : ItK Tryz.prog 82 c (kvs.map (·.1)) X := by
  intro r l Inv B0 Z hps hI round w H
  have hX : ∀ {Q : List (Nat × Obj)} {p : Nat × Obj}, p ∈ X → p ∈ Q ++ (Z ++ X) := fun h => List.mem_append_right _ (List.mem_append_right _ h)
  refine Does.intro (args := [_, _]) (e := [(0, _), (1, _)]) Tryz.func82 rfl Tryz.ntmps82 rfl rfl ?_
  repeat (first | refine .seq ?_ | refine .skip ?_ | refine .block ?_ | refine .inBlock ?_ | refine .yes rfl ?_ | refine .no rfl ?_ | refine .exit rfl ?_)
  repeat (first | refine .seq ?_ | refine .skip ?_ | refine .block ?_ | refine .inBlock ?_ | refine .yes rfl ?_ | refine .no rfl ?_ | refine .exit rfl ?_)
  refine RunsE.region ?_
  refine OpsE.ev (Ev.load H rfl (by kernel_rfl) (hc.sub fun p hp => .tail _ (hX hp))) rfl ?_
  refine OpsE.ex (Ex.rangeS H mapCh rfl (.tail _ (hX hm)) ho) rfl ?_; (try clear H); rintro _ w ⟨it, oi, rfl, hi, H⟩
  refine OpsE.nil ?_
  refine RunsE.block ?_
  refine RunsE.loop (fun _ : List KV × List KV × Obj × List (Nat × Obj) => [(0, .func (.yield l) #[] #[]), (5, .pointer (some ⟨it, 0, none⟩))])
    (fun s w => ItM om s.2.2.1 m s.1 s.2.1 ∧ (s.1 ++ s.2.1).Perm kvs ∧ Inv (s.1.map (·.1)) s.2.2.2 ∧ SL w ((l, .loop r) :: (s.2.2.2 ++ ([(it, s.2.2.1)] ++ (Z ++ X))))) (fun s => s.2.1.length) ([], kvs, oi, B0) ⟨rfl, rfl, trivial⟩ ⟨hi, .refl _, hI, ?_⟩ ?_
  · exact H.f1.in1
  clear H hi
  rintro ⟨kept, rest, oi, B⟩ w ⟨hi, hp, hI, H⟩ nextL
  simp only at hi hp hI H
  have hmem : (m, om) ∈ (l, Obj.loop r) :: (B ++ ([(it, oi)] ++ (Z ++ X))) := .tail _ (List.mem_append_right _ (List.mem_append_right _ (List.mem_append_right _ hm)))
  repeat (first | refine .seq ?_ | refine .skip ?_ | refine .block ?_ | refine .inBlock ?_ | refine .yes rfl ?_ | refine .no rfl ?_ | refine .exit rfl ?_)
  refine RunsE.region ?_
  refine OpsE.ex (Ex.nextSO (M := fun o => (l, .loop r) :: (B ++ ([(it, o)] ++ (Z ++ X)))) H rfl (fun o' => .tail (Upd.skip .head B)) hmem hi) rfl ?_; (try clear H); rintro _ w ⟨o, oi', rfl, H, hn, hs⟩
  refine OpsE.ev (Ev.extract rfl (nextV_0 o)) rfl ?_
  refine OpsE.nil ?_
  cases o with
  | none =>
    obtain ⟨rfl, rfl⟩ := hn rfl
    repeat refine RunsE.seq ?_
    refine RunsE.no rfl ?_
    refine RunsE.exit rfl ?_
    rw [List.append_nil] at hp
    refine RunsE.end0 Tryz.func82 rfl ⟨kept.map (·.1), B, hp.map _, hI, ?_⟩
    exact (show SL w ((l, .loop r) :: (B ++ (it, oi') :: (Z ++ X))) from H).out1.drop1
  | some a =>
    obtain ⟨rest', hrp, hic⟩ := hs a rfl
    have hlen : kept.length < kvs.length := by
      have h1 := hp.length_eq
      have h2 := hrp.length_eq
      simp only [List.length_append, List.length_cons] at h1 h2
      omega
    have hmem' : (m, om) ∈ (l, Obj.loop r) :: (B ++ ([(it, oi')] ++ (Z ++ X))) := .tail _ (List.mem_append_right _ (List.mem_append_right _ (List.mem_append_right _ hm)))
    repeat refine RunsE.seq ?_
    refine RunsE.yes rfl ?_
    repeat (first | refine .seq ?_ | refine .skip ?_ | refine .block ?_ | refine .inBlock ?_ | refine .yes rfl ?_ | refine .no rfl ?_ | refine .exit rfl ?_)
    refine RunsE.region ?_
    refine OpsE.ev (Ev.entryS H rfl (.tail _ (List.mem_append_right _ (.head _))) hmem' hic) rfl ?_
    refine OpsE.ev (Ev.extract rfl rfl) rfl ?_
    refine OpsE.ev (Ev.assign rfl) rfl ?_
    refine OpsE.nil ?_
    repeat (first | refine .seq ?_ | refine .skip ?_ | refine .block ?_ | refine .inBlock ?_ | refine .yes rfl ?_ | refine .no rfl ?_ | refine .exit rfl ?_)
    refine RunsE.region ?_
    refine OpsE.ev (Ev.move rfl) rfl ?_
    refine OpsE.ev (Ev.move rfl) rfl ?_
    refine OpsE.exR (ExR.yield (vs := [sV a.1]) H m0 rfl rfl (by rw [hps]; rfl) (round [(it, oi')] (kept.map (·.1)) a.1 w B hI (by simpa using hlen) H)) rfl ?_; (try clear H); rintro _ w ⟨rfl, B', hI', H⟩
    refine OpsE.ev (Ev.not rfl) rfl ?_
    refine OpsE.nil ?_
    repeat refine RunsE.seq ?_
    refine RunsE.no rfl ?_
    refine RunsE.skip ?_
    refine RunsE.inBlock ?_
    refine nextL (kept ++ [a], rest', oi', B') _ _ ?_ ⟨hic.toM, ?_, by simpa using hI', H⟩ ⟨rfl, rfl, trivial⟩
    · have h2 := hrp.length_eq
      simp only [List.length_cons] at h2
      simp only
      omega
    · simp only [List.append_assoc, List.singleton_append]
      exact ((List.Perm.refl kept).append hrp.symm).trans hp

theorem keysLf_spec [Strm] (m : Nat) (w : World) (F : List (Nat × Obj)) (H : SL w F) :
    Does Tryz.prog 59 #[.map (some m)] w fun r w' => ∃ c, r = .func (.func 90) #[] #[.pointer (some ⟨c, 0, none⟩)] ∧ SL w' ((c, .cells #[.map (some m)] 82 (0, 0)) :: F) := by
  refine Does.intro (args := [_]) (e := [(0, _)]) Tryz.func59 rfl Tryz.ntmps59 rfl rfl ?_
  repeat (first | refine .seq ?_ | refine .skip ?_ | refine .block ?_ | refine .inBlock ?_ | refine .yes rfl ?_ | refine .no rfl ?_ | refine .exit rfl ?_)
  repeat (first | refine .seq ?_ | refine .skip ?_ | refine .block ?_ | refine .inBlock ?_ | refine .yes rfl ?_ | refine .no rfl ?_ | refine .exit rfl ?_)
  refine RunsE.region ?_
  refine OpsE.ex (Ex.box H rfl) rfl ?_; (try clear H); rintro _ w ⟨b1, rfl, H⟩; simp only [Value.cells] at H
  refine OpsE.ev (Ev.assign rfl) rfl ?_
  refine OpsE.nil ?_
  repeat (first | refine .seq ?_ | refine .skip ?_ | refine .block ?_ | refine .inBlock ?_ | refine .yes rfl ?_ | refine .no rfl ?_ | refine .exit rfl ?_)
  refine RunsE.region ?_
  refine OpsE.ev (Ev.makeFunc rfl rfl) rfl ?_
  refine OpsE.ev (Ev.assign rfl) rfl ?_
  refine OpsE.nil ?_
  repeat (first | refine .seq ?_ | refine .skip ?_ | refine .block ?_ | refine .inBlock ?_ | refine .yes rfl ?_ | refine .no rfl ?_ | refine .exit rfl ?_)
  exact RunsE.ret1 Tryz.func59 rfl rfl ⟨_, rfl, H⟩

set_option maxHeartbeats 1000000 in
theorem keysitLf_spec [Strm] (c m : Nat) (om : Obj) (kvs : List KV) (X : List (Nat × Obj)) (hc : Rd X ⟨c, 0, none⟩ (.map (some m))) (hm : (m, om) ∈ X) (ho : Mp om kvs) : ItK Tryz.prog 90 c (kvs.map (·.1)) X := by
  intro r l Inv B0 Z hps hI round w H
  have hX : ∀ {Q : List (Nat × Obj)} {p : Nat × Obj}, p ∈ X → p ∈ Q ++ (Z ++ X) := fun h => List.mem_append_right _ (List.mem_append_right _ h)
  refine Does.intro (args := [_, _]) (e := [(0, _), (1, _)]) Tryz.func90 rfl Tryz.ntmps90 rfl rfl ?_
  repeat (first | refine .seq ?_ | refine .skip ?_ | refine .block ?_ | refine .inBlock ?_ | refine .yes rfl ?_ | refine .no rfl ?_ | refine .exit rfl ?_)
  repeat (first | refine .seq ?_ | refine .skip ?_ | refine .block ?_ | refine .inBlock ?_ | refine .yes rfl ?_ | refine .no rfl ?_ | refine .exit rfl ?_)
  refine RunsE.region ?_
  refine OpsE.ev (Ev.load H rfl (by kernel_rfl) (hc.sub fun p hp => .tail _ (hX hp))) rfl ?_
  refine OpsE.ex (Ex.rangeS H mapLf rfl (.tail _ (hX hm)) ho) rfl ?_; (try clear H); rintro _ w ⟨it, oi, rfl, hi, H⟩
  refine OpsE.nil ?_
  refine RunsE.block ?_
  refine RunsE.loop (fun _ : List KV × List KV × Obj × List (Nat × Obj) => [(0, .func (.yield l) #[] #[]), (5, .pointer (some ⟨it, 0, none⟩))])
    (fun s w => ItM om s.2.2.1 m s.1 s.2.1 ∧ (s.1 ++ s.2.1).Perm kvs ∧ Inv (s.1.map (·.1)) s.2.2.2 ∧ SL w ((l, .loop r) :: (s.2.2.2 ++ ([(it, s.2.2.1)] ++ (Z ++ X))))) (fun s => s.2.1.length) ([], kvs, oi, B0) ⟨rfl, rfl, trivial⟩ ⟨hi, .refl _, hI, ?_⟩ ?_
  · exact H.f1.in1
  clear H hi
  rintro ⟨kept, rest, oi, B⟩ w ⟨hi, hp, hI, H⟩ nextL
  simp only at hi hp hI H
  have hmem : (m, om) ∈ (l, Obj.loop r) :: (B ++ ([(it, oi)] ++ (Z ++ X))) := .tail _ (List.mem_append_right _ (List.mem_append_right _ (List.mem_append_right _ hm)))
  repeat (first | refine .seq ?_ | refine .skip ?_ | refine .block ?_ | refine .inBlock ?_ | refine .yes rfl ?_ | refine .no rfl ?_ | refine .exit rfl ?_)
  refine RunsE.region ?_
  refine OpsE.ex (Ex.nextSO (M := fun o => (l, .loop r) :: (B ++ ([(it, o)] ++ (Z ++ X)))) H rfl (fun o' => .tail (Upd.skip .head B)) hmem hi) rfl ?_; (try clear H); rintro _ w ⟨o, oi', rfl, H, hn, hs⟩
  refine OpsE.ev (Ev.extract rfl (nextV_0 o)) rfl ?_
  refine OpsE.nil ?_
  cases o with
  | none =>
    obtain ⟨rfl, rfl⟩ := hn rfl
    repeat refine RunsE.seq ?_
    refine RunsE.no rfl ?_
    refine RunsE.exit rfl ?_
    rw [List.append_nil] at hp
    refine RunsE.end0 Tryz.func90 rfl ⟨kept.map (·.1), B, hp.map _, hI, ?_⟩
    exact (show SL w ((l, .loop r) :: (B ++ (it, oi') :: (Z ++ X))) from H).out1.drop1
  | some a =>
    obtain ⟨rest', hrp, hic⟩ := hs a rfl
    have hlen : kept.length < kvs.length := by
      have h1 := hp.length_eq
      have h2 := hrp.length_eq
      simp only [List.length_append, List.length_cons] at h1 h2
      omega
    have hmem' : (m, om) ∈ (l, Obj.loop r) :: (B ++ ([(it, oi')] ++ (Z ++ X))) := .tail _ (List.mem_append_right _ (List.mem_append_right _ (List.mem_append_right _ hm)))
    repeat refine RunsE.seq ?_
    refine RunsE.yes rfl ?_
    repeat (first | refine .seq ?_ | refine .skip ?_ | refine .block ?_ | refine .inBlock ?_ | refine .yes rfl ?_ | refine .no rfl ?_ | refine .exit rfl ?_)
    refine RunsE.region ?_
    refine OpsE.ev (Ev.entryS H rfl (.tail _ (List.mem_append_right _ (.head _))) hmem' hic) rfl ?_
    refine OpsE.ev (Ev.extract rfl rfl) rfl ?_
    refine OpsE.ev (Ev.assign rfl) rfl ?_
    refine OpsE.nil ?_
    repeat (first | refine .seq ?_ | refine .skip ?_ | refine .block ?_ | refine .inBlock ?_ | refine .yes rfl ?_ | refine .no rfl ?_ | refine .exit rfl ?_)
    refine RunsE.region ?_
    refine OpsE.ev (Ev.move rfl) rfl ?_
    refine OpsE.ev (Ev.move rfl) rfl ?_
    refine OpsE.exR (ExR.yield (vs := [sV a.1]) H m0 rfl rfl (by rw [hps]; rfl) (round [(it, oi')] (kept.map (·.1)) a.1 w B hI (by simpa using hlen) H)) rfl ?_; (try clear H); rintro _ w ⟨rfl, B', hI', H⟩
    refine OpsE.ev (Ev.not rfl) rfl ?_
    refine OpsE.nil ?_
    repeat refine RunsE.seq ?_
    refine RunsE.no rfl ?_
    refine RunsE.skip ?_
    refine RunsE.inBlock ?_
    refine nextL (kept ++ [a], rest', oi', B') _ _ ?_ ⟨hic.toM, ?_, by simpa using hI', H⟩ ⟨rfl, rfl, trivial⟩
    · have h2 := hrp.length_eq
      simp only [List.length_cons] at h2
      simp only
      omega
    · simp only [List.append_assoc, List.singleton_append]
      exact ((List.Perm.refl kept).append hrp.symm).trans hp

set_option maxHeartbeats 1000000 in
theorem appendseq_spec [Strm] (gf : FuncId) (c : Nat) (ks0 : List (List UInt8)) (hl : ks0.length ≤ 1000000) (X : List (Nat × Obj)) (w : World) (eg : ∀ args w, (callFunc gf args).run Tryz.prog w = .ok (.enter gf args) w)
    (hit : ∀ X', (∀ p ∈ X, p ∈ X') → ItK Tryz.prog gf c ks0 X') (H : SL w X) :
    Does Tryz.prog 99 #[.slice none 0 0, .func (.func gf) #[] #[.pointer (some ⟨c, 0, none⟩)]] w fun u w' => ∃ ks B, ks.Perm ks0 ∧ Slc gT 1 9 u ks B ∧ SL w' (B ++ X) := by
  refine Does.intro (args := [_, _]) (e := [(0, _), (1, _)]) Tryz.func99 rfl Tryz.ntmps99 rfl rfl ?_
  repeat (first | refine .seq ?_ | refine .skip ?_ | refine .block ?_ | refine .inBlock ?_ | refine .yes rfl ?_ | refine .no rfl ?_ | refine .exit rfl ?_)
  repeat (first | refine .seq ?_ | refine .skip ?_ | refine .block ?_ | refine .inBlock ?_ | refine .yes rfl ?_ | refine .no rfl ?_ | refine .exit rfl ?_)
  refine RunsE.region ?_
  refine OpsE.ex (Ex.box H rfl) rfl ?_; (try clear H); rintro _ w ⟨b2, rfl, H⟩; simp only [Value.cells] at H
  refine OpsE.ev (Ev.assign rfl) rfl ?_
  refine OpsE.nil ?_
  repeat (first | refine .seq ?_ | refine .skip ?_ | refine .block ?_ | refine .inBlock ?_ | refine .yes rfl ?_ | refine .no rfl ?_ | refine .exit rfl ?_)
  refine RunsE.region ?_
  refine OpsE.ev (Ev.move rfl) rfl ?_
  refine OpsE.nil ?_
  repeat (first | refine .seq ?_ | refine .skip ?_ | refine .block ?_ | refine .inBlock ?_ | refine .yes rfl ?_ | refine .no rfl ?_ | refine .exit rfl ?_)
  refine RunsE.rangeFuncR (fun pe L2 => pe = none ∧ ∃ ks v B, ks.Perm ks0 ∧ Slc gT 1 9 v ks B ∧ L2 = (b2, .cells #[v] 51 (0, 0)) :: (B ++ X))
    H rfl eg (fun r l D w1 e1 e2 e3 e4 e5 e6 hfit H => ?_) (fun pe L2 D w hJ H => ?_)
  · have hit' := hit X (fun _ h => h) r l (fun done B => ∃ v Bs, Slc gT 1 9 v done Bs ∧ B = (b2, .cells #[v] 51 (0, 0)) :: Bs) [(b2, .cells #[.slice none 0 0] 51 (0, 0))] [(D, .deferred (some []))]
      (by rw [e4]; rfl) ⟨_, [], .nil, rfl⟩ ?_ w1 (SL.perm H (by
        refine List.Perm.cons _ ?_
        exact List.Perm.swap _ _ _))
    · refine hit'.mono ?_
      rintro _ w4 ⟨ks, B, hks, ⟨v, Bs, hs, rfl⟩, H⟩
      refine ⟨.ready, none, _, by simp, ⟨rfl, ks, v, Bs, hks, hs, rfl⟩, ?_⟩
      have er : ({ r with state := .ready, pending := none } : Loop) = r := by cases r; simp only at e1 e2; subst e1 e2; rfl
      rw [er]
      refine SL.perm H ?_
      refine List.Perm.cons _ ?_
      simp only [List.cons_append, List.nil_append]
      refine List.Perm.trans (List.Perm.swap _ _ _) (List.Perm.cons _ ?_)
      exact List.perm_middle.symm
    · rintro Y done k w B ⟨v, Bs, hs, rfl⟩ hlt H
      obtain ⟨av, cv, rfl, hcv⟩ := hs.leCap
      rw [e3, e4, e5, e6]
      refine Round.mk (Fits.one (a := 7) hfit rfl _) ?_
      repeat (first | refine .seq ?_ | refine .skip ?_ | refine .block ?_ | refine .inBlock ?_ | refine .yes rfl ?_ | refine .no rfl ?_ | refine .exit rfl ?_)
      refine RunsE.region ?_
      refine OpsE.ev (Ev.assign rfl) rfl ?_
      refine OpsE.nil ?_
      refine RunsE.beginRound H .head e1 fun w H => ?_
      repeat (first | refine .seq ?_ | refine .skip ?_ | refine .block ?_ | refine .inBlock ?_ | refine .yes rfl ?_ | refine .no rfl ?_ | refine .exit rfl ?_)
      refine RunsE.region ?_
      refine OpsE.ev (Ev.load H rfl (by kernel_rfl) (Rd.mk m1 rfl)) rfl ?_
      refine OpsE.ev (Ev.move rfl) rfl ?_
      refine OpsE.ex (Ex.buildSl (T := 9) (zv := .string .empty) H rfl (by kernel_rfl) (by kernel_rfl) (by simp [Value.oneCell']) rfl (by omega) (by omega)) rfl ?_; (try clear H); rintro _ w ⟨b10, rfl, H⟩
      refine OpsE.ex (Ex.append (T := 9) (g := gT) (by_ := 16) (zv := .string .empty) (ys := [k]) (H.drop.mid2) rfl rfl hs (Src.row0 H m0 rfl) (fun _ => rfl) (by simp [Value.oneCell']) (by kernel_rfl) (by kernel_rfl) (by kernel_rfl) (by kernel_rfl) rfl (by simp only [List.length_singleton]; omega) (by simp only [List.length_singleton]; omega)) rfl ?_; (try clear H); rintro v' w ⟨B', hs', H⟩; obtain ⟨a', c', rfl⟩ := hs'.len
      refine OpsE.exn (Ex.store1 H rfl rfl (by kernel_rfl) rfl (Upd.skip u1 B') (by simp) (Thaw.zero _ _) rfl) ?_; (try clear H); intro _ w H
      refine OpsE.nil ?_
      refine RunsE.inBlock ?_
      refine RunsE.roundEnd H (Upd.skip .head B') fun w H => ⟨rfl, _, ⟨_, B', hs', rfl⟩, ?_⟩
      have er : ({ ({ r with state := .busy } : Loop) with state := .ready, pending := none } : Loop) = r := by cases r; simp only at e1 e2; subst e1 e2; rfl
      rw [er] at H
      exact H.unmid2
  · obtain ⟨rfl, ks, v, B, hks, hs, rfl⟩ := hJ
    obtain ⟨av, cv, rfl, hcv⟩ := hs.leCap
    refine RunsE.inBlock ?_
    repeat (first | refine .seq ?_ | refine .skip ?_ | refine .block ?_ | refine .inBlock ?_ | refine .yes rfl ?_ | refine .no rfl ?_ | refine .exit rfl ?_)
    refine RunsE.region ?_
    refine OpsE.ev (Ev.load H rfl (by kernel_rfl) (Rd.mk m1 rfl)) rfl ?_
    refine OpsE.ev (Ev.assign rfl) rfl ?_
    refine OpsE.nil ?_
    repeat (first | refine .seq ?_ | refine .skip ?_ | refine .block ?_ | refine .inBlock ?_ | refine .yes rfl ?_ | refine .no rfl ?_ | refine .exit rfl ?_)
    exact RunsE.ret1M H .head Tryz.func99 rfl rfl fun w H => ⟨ks, B, hks, hs, H.drop.drop⟩

theorem collect_spec [Strm] (gf : FuncId) (c : Nat) (ks0 : List (List UInt8)) (hl : ks0.length ≤ 1000000) (X : List (Nat × Obj)) (w : World) (eg : ∀ args w, (callFunc gf args).run Tryz.prog w = .ok (.enter gf args) w)
    (hit : ∀ X', (∀ p ∈ X, p ∈ X') → ItK Tryz.prog gf c ks0 X') (H : SL w X) :
    Does Tryz.prog 80 #[.func (.func gf) #[] #[.pointer (some ⟨c, 0, none⟩)]] w fun u w' => ∃ ks B, ks.Perm ks0 ∧ Slc gT 1 9 u ks B ∧ SL w' (B ++ X) := by
  refine Does.intro (args := [_]) (e := [(0, _)]) Tryz.func80 rfl Tryz.ntmps80 rfl rfl ?_
  repeat (first | refine .seq ?_ | refine .skip ?_ | refine .block ?_ | refine .inBlock ?_ | refine .yes rfl ?_ | refine .no rfl ?_ | refine .exit rfl ?_)
  repeat (first | refine .seq ?_ | refine .skip ?_ | refine .block ?_ | refine .inBlock ?_ | refine .yes rfl ?_ | refine .no rfl ?_ | refine .exit rfl ?_)
  refine RunsE.region ?_
  refine OpsE.ev (Ev.assign rfl) rfl ?_
  refine OpsE.nil ?_
  repeat (first | refine .seq ?_ | refine .skip ?_ | refine .block ?_ | refine .inBlock ?_ | refine .yes rfl ?_ | refine .no rfl ?_ | refine .exit rfl ?_)
  refine RunsE.region ?_
  refine OpsE.ev (Ev.move rfl) rfl ?_
  refine OpsE.ex (Ex.call rfl Tryz.call99 (appendseq_spec gf c ks0 hl X w eg hit H)) rfl ?_; (try clear H); rintro _ w ⟨ks, B, hks, hs, H⟩
  refine OpsE.ev (Ev.assign rfl) rfl ?_
  refine OpsE.nil ?_
  repeat (first | refine .seq ?_ | refine .skip ?_ | refine .block ?_ | refine .inBlock ?_ | refine .yes rfl ?_ | refine .no rfl ?_ | refine .exit rfl ?_)
  exact RunsE.ret1 Tryz.func80 rfl rfl ⟨ks, B, hks, hs, H⟩

theorem sorted_spec [Strm] (gf : FuncId) (c : Nat) (ks0 : List (List UInt8)) (hl : ks0.length ≤ 1000000) (X : List (Nat × Obj)) (w : World) (eg : ∀ args w, (callFunc gf args).run Tryz.prog w = .ok (.enter gf args) w)
    (hit : ∀ X', (∀ p ∈ X, p ∈ X') → ItK Tryz.prog gf c ks0 X') (H : SL w X) :
    Does Tryz.prog 48 #[.func (.func gf) #[] #[.pointer (some ⟨c, 0, none⟩)]] w fun u w' => ∃ ks B, ks.Perm ks0 ∧ Slc gT 1 9 u (srtS ks) B ∧ SL w' (B ++ X) := by
  refine Does.intro (args := [_]) (e := [(0, _)]) Tryz.func48 rfl Tryz.ntmps48 rfl rfl ?_
  repeat (first | refine .seq ?_ | refine .skip ?_ | refine .block ?_ | refine .inBlock ?_ | refine .yes rfl ?_ | refine .no rfl ?_ | refine .exit rfl ?_)
  repeat (first | refine .seq ?_ | refine .skip ?_ | refine .block ?_ | refine .inBlock ?_ | refine .yes rfl ?_ | refine .no rfl ?_ | refine .exit rfl ?_)
  refine RunsE.region ?_
  refine OpsE.ev (Ev.assign rfl) rfl ?_
  refine OpsE.nil ?_
  repeat (first | refine .seq ?_ | refine .skip ?_ | refine .block ?_ | refine .inBlock ?_ | refine .yes rfl ?_ | refine .no rfl ?_ | refine .exit rfl ?_)
  refine RunsE.region ?_
  refine OpsE.ev (Ev.move rfl) rfl ?_
  refine OpsE.ex (Ex.call rfl Tryz.call80 (collect_spec gf c ks0 hl X w eg hit H)) rfl ?_; (try clear H); rintro vs w ⟨ks, B, hks, hs, H⟩
  refine OpsE.ev (Ev.assign rfl) rfl ?_
  refine OpsE.nil ?_
  repeat (first | refine .seq ?_ | refine .skip ?_ | refine .block ?_ | refine .inBlock ?_ | refine .yes rfl ?_ | refine .no rfl ?_ | refine .exit rfl ?_)
  refine RunsE.region ?_
  refine OpsE.ev (Ev.move rfl) rfl ?_
  refine OpsE.ex (Ex.call rfl Tryz.call81 (sortS_spec _ ks B (by rw [hks.length_eq]; exact hl) w X hs H)) rfl ?_; (try clear H); rintro _ w ⟨rfl, B', hs', H⟩
  refine OpsE.nil ?_
  repeat (first | refine .seq ?_ | refine .skip ?_ | refine .block ?_ | refine .inBlock ?_ | refine .yes rfl ?_ | refine .no rfl ?_ | refine .exit rfl ?_)
  refine RunsE.region ?_
  refine OpsE.ev (Ev.move rfl) rfl ?_
  refine OpsE.ev (Ev.assign rfl) rfl ?_
  refine OpsE.nil ?_
  repeat (first | refine .seq ?_ | refine .skip ?_ | refine .block ?_ | refine .inBlock ?_ | refine .yes rfl ?_ | refine .no rfl ?_ | refine .exit rfl ?_)
  exact RunsE.ret1 Tryz.func48 rfl rfl ⟨ks, B', hks, hs', H⟩

theorem mclone_spec [Strm] (m : Nat) (o : Obj) (kvs : List KV) (w : World) (X : List (Nat × Obj)) (hm : (m, o) ∈ X) (ho : Mp o kvs) (H : SL w X) : Does Tryz.prog 55 #[.map (some m)] w fun r w' => ∃ m2 o2, r = .map (some m2) ∧ Mp o2 kvs ∧ SL w' ((m2, o2) :: X) := by
  refine Does.intro (args := [_]) (e := [(0, _)]) Tryz.func55 rfl Tryz.ntmps55 rfl rfl ?_
  repeat (first | refine .seq ?_ | refine .skip ?_ | refine .block ?_ | refine .inBlock ?_ | refine .yes rfl ?_ | refine .no rfl ?_ | refine .exit rfl ?_)
  repeat (first | refine .seq ?_ | refine .skip ?_ | refine .block ?_ | refine .inBlock ?_ | refine .yes rfl ?_ | refine .no rfl ?_ | refine .exit rfl ?_)
  refine RunsE.region ?_
  refine OpsE.ev (Ev.assign rfl) rfl ?_
  refine OpsE.nil ?_
  repeat (first | refine .seq ?_ | refine .skip ?_ | refine .block ?_ | refine .inBlock ?_ | refine .yes rfl ?_ | refine .no rfl ?_ | refine .exit rfl ?_)
  refine RunsE.region ?_
  refine OpsE.ev (Ev.move rfl) rfl ?_
  refine OpsE.ev (Ev.mapNilEq (m := some m) rfl rfl Tryz.underlying82) rfl ?_
  refine OpsE.nil ?_
  repeat (first | refine .seq ?_ | refine .skip ?_ | refine .block ?_ | refine .inBlock ?_ | refine .yes rfl ?_ | refine .no rfl ?_ | refine .exit rfl ?_)
  refine RunsE.region ?_
  refine OpsE.ev (Ev.move rfl) rfl ?_
  refine OpsE.ev (Ev.makeInterface (d := .map 9 117) rfl Tryz.underlying82 rfl) rfl ?_
  refine OpsE.ex (Ex.copyMapS H rfl hm ho Tryz.func87 (by kernel_rfl) (by kernel_rfl) (by kernel_rfl) (by kernel_rfl)) rfl ?_; (try clear H); rintro _ w ⟨m2, o2, rfl, ho2, H⟩
  refine OpsE.ev (Ev.assertIs (d := .map 9 117) rfl Tryz.underlying82 rfl) rfl ?_
  refine OpsE.ev (Ev.assign rfl) rfl ?_
  refine OpsE.nil ?_
  repeat (first | refine .seq ?_ | refine .skip ?_ | refine .block ?_ | refine .inBlock ?_ | refine .yes rfl ?_ | refine .no rfl ?_ | refine .exit rfl ?_)
  exact RunsE.ret1 Tryz.func55 rfl rfl ⟨m2, o2, rfl, ho2, H⟩

end Go.Proofs.YtflfaiakenahlaaGreatDoor
end

section
/-
  Layer 10 in plain words: leaves by rising key, changes, which come to pass, and where. No program here.
-/
namespace Go.Proofs.YtflfaiakenahlaaGreatDoor.V

structure Lf where
  key : List UInt8
  val : List UInt8
  place : Nat
deriving DecidableEq, Inhabited
structure Ch where
  key : List UInt8
  val : List UInt8
  gone : Bool
deriving DecidableEq, Inhabited

abbrev leafV (y : Lf) : Value := .agg #[.int .i64 (y.place : Int), sV y.val]
abbrev chV (c : Ch) : Value := .agg #[sV c.key, sV c.val, .bool c.gone]
def kvL (l : List Lf) : List KV := l.map fun y => (y.key, leafV y)
def kvC (l : List Ch) : List KV := l.map fun y => (y.key, chV y)

/-! ### Sorted strings are one list -/

theorem srtS_pairwise (ks : List (List UInt8)) : (srtS ks).Pairwise fun a b => a ≤ b := by
  have := List.pairwise_mergeSort (le := fun x y : List UInt8 => decide (x ≤ y)) (fun a b c h1 h2 => by
      simp only [decide_eq_true_eq] at h1 h2 ⊢
      exact List.le_trans h1 h2) (fun a b => by
      rcases List.le_total a b with h | h
      · simp [h]
      · simp [h]) ks
  exact this.imp fun h => by simpa using h

theorem srtS_uniq {ks l : List (List UInt8)} (hl : l.Pairwise fun a b => a < b) (hp : ks.Perm l) : srtS ks = l := by
  refine List.Perm.eq_of_pairwise (le := fun a b => a ≤ b) (fun a b _ _ h1 h2 => List.le_antisymm h1 h2) (srtS_pairwise ks) (hl.imp fun h => List.le_of_lt h) ?_
  exact (List.mergeSort_perm ks _).trans hp

theorem srtN_uniq {zs l : List Int} (hl : l.Pairwise fun a b => a < b) (hp : zs.Perm l) : srtN zs = l := by
  refine List.Perm.eq_of_pairwise (le := fun a b : Int => a ≤ b) (fun a b _ _ h1 h2 => by omega) ?_ (hl.imp fun h => by omega) ?_
  · have := List.pairwise_mergeSort (le := fun x y : Int => decide (x ≤ y)) (fun a b c h1 h2 => by
      simp only [decide_eq_true_eq] at h1 h2 ⊢
      omega) (fun a b => by
      simp only [Bool.or_eq_true, decide_eq_true_eq]
      omega) zs
    exact this.imp fun h => by simpa using h
  · exact (List.mergeSort_perm zs _).trans hp

/-! ### Insertion by key -/
section
variable {α : Type} (key : α → List UInt8)
def insK (l : List α) (x : α) : List α := l.takeWhile (fun y => decide (key y < key x)) ++ x :: l.dropWhile (fun y => decide (key y < key x))

theorem insK_perm (l : List α) (x : α) : (insK key l x).Perm (x :: l) := by
  unfold insK
  refine List.perm_middle.trans (List.Perm.cons x ?_)
  rw [List.takeWhile_append_dropWhile]

theorem mem_takeWhile {p : α → Bool} {l : List α} {y : α} (h : y ∈ l.takeWhile p) : p y = true ∧ y ∈ l := by
  induction l with
  | nil => cases h
  | cons a r ih =>
    rw [List.takeWhile_cons] at h
    split at h
    · rcases List.mem_cons.1 h with rfl | h
      · exact ⟨by assumption, .head _⟩
      · exact ⟨(ih h).1, .tail _ (ih h).2⟩
    · cases h

theorem dropWhile_sorted {k : List UInt8} {l : List α} (hl : l.Pairwise fun a b => key a < key b) : ∀ y ∈ l.dropWhile (fun y => decide (key y < k)), ¬ key y < k := by
  induction l with
  | nil => intro y h; cases h
  | cons a r ih =>
    rw [List.pairwise_cons] at hl
    intro y h
    rw [List.dropWhile_cons] at h
    by_cases ha : key a < k
    · rw [if_pos (decide_eq_true ha)] at h
      exact ih hl.2 y h
    · rw [if_neg (by simpa using ha)] at h
      rcases List.mem_cons.1 h with rfl | h
      · exact ha
      · intro hy
        exact ha (List.lt_trans (hl.1 y h) hy)

theorem insK_sorted {l : List α} {x : α} (hl : l.Pairwise fun a b => key a < key b) (hx : ∀ y ∈ l, key y ≠ key x) : (insK key l x).Pairwise fun a b => key a < key b := by
  unfold insK
  rw [List.pairwise_append, List.pairwise_cons]
  have hd := dropWhile_sorted key (k := key x) hl
  have hsub : (l.takeWhile (fun y => decide (key y < key x))).Sublist l := List.takeWhile_sublist _
  have hsubd : (l.dropWhile (fun y => decide (key y < key x))).Sublist l := List.dropWhile_sublist _
  have hgt : ∀ y ∈ l.dropWhile (fun y => decide (key y < key x)), key x < key y := fun y hy => by
    have h1 := List.not_lt.1 (hd y hy)
    rcases List.le_iff_lt_or_eq.1 h1 with h | h
    · exact h
    · exact absurd h.symm (hx y (hsubd.subset hy))
  refine ⟨hl.sublist hsub, ⟨hgt, hl.sublist hsubd⟩, ?_⟩
  intro a ha b hb
  have h1 := (mem_takeWhile ha).1
  simp only [decide_eq_true_eq] at h1
  rcases List.mem_cons.1 hb with rfl | hb
  · exact h1
  · exact List.lt_trans h1 (hgt b hb)
end

theorem filter_true {α : Type} (l : List α) : (l.filter fun _ => true) = l := List.filter_eq_self.2 fun _ _ => rfl

abbrev SrtL (l : List Lf) : Prop := l.Pairwise fun a b => a.key < b.key
abbrev SrtC (l : List Ch) : Prop := l.Pairwise fun a b => a.key < b.key

theorem SrtL.nodup {l : List Lf} (h : SrtL l) : (l.map Lf.key).Nodup := by
  rw [List.nodup_iff_pairwise_ne, List.pairwise_map]
  exact h.imp fun {a b} (h : a.key < b.key) (he : a.key = b.key) => List.lt_irrefl b.key (by rw [he] at h; exact h)
theorem SrtC.nodup {l : List Ch} (h : SrtC l) : (l.map Ch.key).Nodup := by
  rw [List.nodup_iff_pairwise_ne, List.pairwise_map]
  exact h.imp fun {a b} (h : a.key < b.key) (he : a.key = b.key) => List.lt_irrefl b.key (by rw [he] at h; exact h)

/-! ### Changes -/

/-- Of each key the last one. -/
def lastsM : List Ch → List Ch
  | [] => []
  | x :: r => if r.any (fun y => decide (y.key = x.key)) then lastsM r else x :: lastsM r

theorem lasts_sub : ∀ {c : List Ch}, (lastsM c).Sublist c
  | [] => .slnil
  | x :: r => by
    unfold lastsM
    split
    · exact lasts_sub.cons _
    · exact lasts_sub.cons_cons _

theorem lasts_nodup : ∀ {c : List Ch}, ((lastsM c).map Ch.key).Nodup
  | [] => .nil
  | x :: r => by
    unfold lastsM
    split
    · exact lasts_nodup
    · rename_i h
      rw [List.map_cons, List.nodup_cons]
      refine ⟨fun hm => ?_, lasts_nodup⟩
      obtain ⟨y, hy, he⟩ := List.mem_map.1 hm
      apply h
      rw [List.any_eq_true]
      exact ⟨y, lasts_sub.subset hy, decide_eq_true he⟩

theorem lasts_snoc : ∀ (c : List Ch) (x : Ch), lastsM (c ++ [x]) = ((lastsM c).filter fun y => decide (y.key ≠ x.key)) ++ [x]
  | [], x => rfl
  | y :: r, x => by
    rw [List.cons_append]
    have ih := lasts_snoc r x
    by_cases h1 : r.any (fun z => decide (z.key = y.key)) = true
    · have h2 : (r ++ [x]).any (fun z => decide (z.key = y.key)) = true := by rw [List.any_append, h1, Bool.true_or]
      unfold lastsM
      rw [if_pos h1, if_pos h2, ih]
    · by_cases h3 : x.key = y.key
      · have h2 : (r ++ [x]).any (fun z => decide (z.key = y.key)) = true := by rw [List.any_append]; simp [h3]
        unfold lastsM
        rw [if_neg h1, if_pos h2, ih, List.filter_cons, if_neg (by simp [h3])]
      · have h2 : ¬ (r ++ [x]).any (fun z => decide (z.key = y.key)) = true := by
          rw [List.any_append]
          simp only [Bool.or_eq_true]
          rintro (h | h)
          · exact h1 h
          · simp [h3] at h
        conv => lhs; unfold lastsM
        conv => rhs; unfold lastsM
        rw [if_neg h1, if_neg h2, ih, List.filter_cons, if_pos (by simp; exact fun h => h3 h.symm), List.cons_append]

/-- The map that the last ones of each key make. -/
theorem lasts_put {c : List Ch} {x : Ch} {kvs : List KV} (h : kvs.Perm (kvC (lastsM c))) : (putK kvs x.key (chV x)).Perm (kvC (lastsM (c ++ [x]))) := by
  rw [lasts_snoc]
  refine (putK_perm h _ _).trans ?_
  unfold putK kvC
  rw [List.map_append, List.filter_map]
  exact (List.perm_append_comm (l₁ := [_])).trans (List.Perm.refl _)

def findL (l : List Lf) (k : List UInt8) : Option Lf := l.find? fun y => decide (y.key = k)
/-- It changes nothing. -/
def sameM (l : List Lf) (c : Ch) : Bool := match findL l c.key with
  | none => c.gone
  | some y => !c.gone && decide (y.val = c.val)

def changesM (l : List Lf) (c : List Ch) : List Ch := ((lastsM c).filter fun x => !sameM l x).foldl (insK Ch.key) []

theorem foldl_ins : ∀ (xs acc : List Ch), ((acc ++ xs).map Ch.key).Nodup → SrtC acc → SrtC (xs.foldl (insK Ch.key) acc) ∧ (xs.foldl (insK Ch.key) acc).Perm (acc ++ xs)
  | [], acc, _, h => ⟨h, by simp⟩
  | x :: xs, acc, hn, h => by
    have hx : ∀ y ∈ acc, y.key ≠ x.key := fun y hy he => by
      rw [List.map_append, List.nodup_append] at hn
      exact hn.2.2 _ (List.mem_map_of_mem hy) _ (by rw [List.map_cons]; exact .head _) he
    have hp := insK_perm Ch.key acc x
    have hp2 : (insK Ch.key acc x ++ xs).Perm (acc ++ x :: xs) := (hp.append_right xs).trans List.perm_middle.symm
    have := foldl_ins xs (insK Ch.key acc x) (((hp2.map _).nodup_iff).2 hn) (insK_sorted Ch.key h hx)
    exact ⟨this.1, this.2.trans hp2⟩

theorem filt_nodup {l : List Lf} {c : List Ch} : (((lastsM c).filter fun x => !sameM l x).map Ch.key).Nodup := lasts_nodup.sublist ((List.filter_sublist).map _)

theorem changes_sorted (l : List Lf) (c : List Ch) : SrtC (changesM l c) := (foldl_ins _ [] (by simpa using filt_nodup) .nil).1
theorem changes_perm (l : List Lf) (c : List Ch) : (changesM l c).Perm ((lastsM c).filter fun x => !sameM l x) := by
  exact (foldl_ins ((lastsM c).filter fun x => !sameM l x) [] (by simpa using filt_nodup) .nil).2
theorem changes_len (l : List Lf) (c : List Ch) : (changesM l c).length ≤ c.length := by
  rw [(changes_perm l c).length_eq]
  exact Nat.le_trans (List.length_filter_le _ _) lasts_sub.length_le
theorem changes_sub {l : List Lf} {c : List Ch} {x : Ch} (h : x ∈ changesM l c) : x ∈ c := lasts_sub.subset (List.mem_filter.1 ((changes_perm l c).subset h)).1
theorem changes_new {l : List Lf} {c : List Ch} {x : Ch} (h : x ∈ changesM l c) : sameM l x = false := by
  have := (List.mem_filter.1 ((changes_perm l c).subset h)).2
  simpa using this

/-! ### Which places -/

def freeM (l : List Lf) (count : Nat) : List Nat := (List.range' 1 (count - 1)).filter fun p => !(l.any fun y => decide (y.place = p))
def delL (now : List Lf) (k : List UInt8) : List Lf := now.filter fun y => decide (y.key ≠ k)
def laidM : List Ch → List Nat → List Lf
  | [], _ => []
  | x :: r, fr => if x.gone then laidM r fr else ⟨x.key, x.val, fr.headD 0⟩ :: laidM r fr.tail
def applyM : List Lf → List Ch → List Nat → List Lf
  | now, [], _ => now
  | now, x :: r, fr => if x.gone then applyM (delL now x.key) r fr else applyM (insK Lf.key (delL now x.key) ⟨x.key, x.val, fr.headD 0⟩) r fr.tail

theorem laid_keys : ∀ (ch : List Ch) (fr : List Nat), (laidM ch fr).map Lf.key = (ch.filter fun x => !x.gone).map Ch.key
  | [], _ => rfl
  | x :: r, fr => by
    unfold laidM
    rw [List.filter_cons]
    cases hg : x.gone with
    | true => simp only [if_true, Bool.not_true, Bool.false_eq_true, if_false]; exact laid_keys r fr
    | false => simp only [Bool.false_eq_true, if_false, Bool.not_false, if_true, List.map_cons]; rw [laid_keys r fr.tail]

theorem delL_sorted {now : List Lf} {k : List UInt8} (h : SrtL now) : SrtL (delL now k) := h.sublist List.filter_sublist

theorem apply_sorted : ∀ (ch : List Ch) (now : List Lf) (fr : List Nat), SrtL now → SrtL (applyM now ch fr)
  | [], now, _, h => h
  | x :: r, now, fr, h => by
    unfold applyM
    split
    · exact apply_sorted r _ fr (delL_sorted h)
    · refine apply_sorted r _ fr.tail (insK_sorted Lf.key (delL_sorted h) fun y hy => ?_)
      have := (List.mem_filter.1 hy).2
      simpa using this

/-- What is left of the old ones. -/
def keptM (now : List Lf) (ch : List Ch) : List Lf := now.filter fun y => !(ch.any fun x => decide (x.key = y.key))

theorem kept_cons (now : List Lf) (x : Ch) (r : List Ch) : keptM (delL now x.key) r = keptM now (x :: r) := by
  unfold keptM delL
  rw [List.filter_filter]
  apply List.filter_congr
  intro y _
  rw [List.any_cons, Bool.not_or, Bool.and_comm]
  congr 1
  rw [Bool.eq_iff_iff]
  simp only [ne_eq, decide_eq_true_eq, Bool.not_eq_true', decide_eq_false_iff_not]
  exact not_congr eq_comm

theorem apply_perm : ∀ (ch : List Ch) (now : List Lf) (fr : List Nat), (ch.map Ch.key).Nodup → (applyM now ch fr).Perm (keptM now ch ++ laidM ch fr)
  | [], now, _, _ => by
    unfold applyM laidM keptM
    rw [List.append_nil]
    exact List.Perm.of_eq (filter_true now).symm
  | x :: r, now, fr, hn => by
    rw [List.map_cons, List.nodup_cons] at hn
    unfold applyM laidM
    cases hg : x.gone with
    | true =>
      simp only [if_true]
      rw [← kept_cons]
      exact apply_perm r _ fr hn.2
    | false =>
      simp only [Bool.false_eq_true, if_false]
      refine (apply_perm r _ fr.tail hn.2).trans ?_
      rw [← kept_cons]
      have h1 := (insK_perm Lf.key (delL now x.key) ⟨x.key, x.val, fr.headD 0⟩).filter (fun y => !(r.any fun x => decide (x.key = y.key)))
      have h2 : (((⟨x.key, x.val, fr.headD 0⟩ : Lf) :: delL now x.key).filter (fun y => !(r.any fun x => decide (x.key = y.key)))) = ⟨x.key, x.val, fr.headD 0⟩ :: keptM (delL now x.key) r := by
        rw [List.filter_cons, if_pos]
        · rfl
        · rw [Bool.not_eq_true', List.any_eq_false]
          intro y hy he
          have he' : y.key = x.key := of_decide_eq_true he
          exact hn.1 (by rw [← he']; exact List.mem_map_of_mem (f := Ch.key) hy)
      rw [h2] at h1
      exact (h1.append_right _).trans List.perm_middle.symm

/-! ### The program's road: a copy of the map, written -/

def putAll (kvs : List KV) (laid : List Lf) : List KV := laid.foldl (fun m y => putK m y.key (leafV y)) kvs
def delAll (kvs : List KV) (ks : List (List UInt8)) : List KV := ks.foldl delK kvs

theorem putAll_perm : ∀ (laid : List Lf) (kvs : List KV), (laid.map Lf.key).Nodup → (putAll kvs laid).Perm ((kvs.filter fun p => !(laid.any fun y => decide (y.key = p.1))) ++ kvL laid)
  | [], kvs, _ => by
    unfold putAll kvL
    rw [List.map_nil, List.append_nil]
    exact List.Perm.of_eq (filter_true kvs).symm
  | y :: r, kvs, hn => by
    rw [List.map_cons, List.nodup_cons] at hn
    unfold putAll
    rw [List.foldl_cons]
    refine (putAll_perm r (putK kvs y.key (leafV y)) hn.2).trans ?_
    unfold putK kvL
    rw [List.filter_cons, if_pos, List.filter_filter, List.map_cons]
    · have h2 : (kvs.filter fun p => (!(r.any fun y => decide (y.key = p.1))) && decide (p.1 ≠ y.key)) = kvs.filter fun p => !((y :: r).any fun y => decide (y.key = p.1)) := by
        apply List.filter_congr
        intro p _
        rw [List.any_cons, Bool.not_or, Bool.and_comm]
        congr 1
        rw [Bool.eq_iff_iff]
        simp only [ne_eq, decide_eq_true_eq, Bool.not_eq_true', decide_eq_false_iff_not]
        exact not_congr eq_comm
      rw [h2]
      exact List.perm_middle.symm
    · rw [Bool.not_eq_true', List.any_eq_false]
      intro z hz he
      have he' : z.key = y.key := of_decide_eq_true he
      exact hn.1 (by rw [← he']; exact List.mem_map_of_mem (f := Lf.key) hz)

theorem delAll_eq : ∀ (ks : List (List UInt8)) (kvs : List KV), delAll kvs ks = kvs.filter fun p => !(ks.contains p.1)
  | [], kvs => by
    unfold delAll
    exact (filter_true kvs).symm
  | k :: r, kvs => by
    unfold delAll
    rw [List.foldl_cons]
    refine (delAll_eq r (delK kvs k)).trans ?_
    unfold delK
    rw [List.filter_filter]
    apply List.filter_congr
    intro p _
    rw [List.contains_cons, Bool.not_or, Bool.and_comm]
    congr 1
    rw [Bool.eq_iff_iff]
    simp

/-- Both roads come to the same map. -/
theorem roads {l : List Lf} {ch : List Ch} {fr : List Nat} (hn : (ch.map Ch.key).Nodup) :
    (delAll (putAll (kvL l) (laidM ch fr)) ((ch.filter fun x => x.gone).map Ch.key)).Perm (kvL (applyM l ch fr)) := by
  have hk := laid_keys ch fr
  have hln : ((laidM ch fr).map Lf.key).Nodup := by rw [hk]; exact hn.sublist ((List.filter_sublist).map _)
  rw [delAll_eq]
  refine ((putAll_perm (laidM ch fr) (kvL l) hln).filter _).trans ?_
  rw [List.filter_append, List.filter_filter]
  refine List.Perm.trans ?_ ((apply_perm ch l fr hn).map _).symm
  rw [List.map_append]
  have hmk : ∀ k : List UInt8, ((laidM ch fr).any fun y => decide (y.key = k)) = ((ch.filter fun x => !x.gone).any fun x => decide (x.key = k)) := fun k => by
    have h1 : ((laidM ch fr).any fun y => decide (y.key = k)) = ((laidM ch fr).map Lf.key).any fun z => decide (z = k) := by rw [List.any_map]; rfl
    have h2 : ((ch.filter fun x => !x.gone).any fun x => decide (x.key = k)) = ((ch.filter fun x => !x.gone).map Ch.key).any fun z => decide (z = k) := by rw [List.any_map]; rfl
    rw [h1, h2, hk]
  have e1 : ((kvL l).filter fun p => (!(((ch.filter fun x => x.gone).map Ch.key).contains p.1)) && !((laidM ch fr).any fun y => decide (y.key = p.1))) = (keptM l ch).map fun y => (y.key, leafV y) := by
    unfold kvL keptM
    rw [List.filter_map]
    congr 1
    apply List.filter_congr
    intro y _
    simp only [Function.comp]
    rw [hmk, ← Bool.not_or]
    congr 1
    rw [Bool.eq_iff_iff]
    simp only [Bool.or_eq_true, List.contains_iff_mem, List.mem_map, List.mem_filter, List.any_eq_true, decide_eq_true_eq, Bool.not_eq_true']
    constructor
    · rintro (⟨x, ⟨h1, _⟩, h3⟩ | ⟨x, ⟨h1, _⟩, h3⟩)
      · exact ⟨x, h1, h3⟩
      · exact ⟨x, h1, h3⟩
    · rintro ⟨x, h1, h3⟩
      cases hg : x.gone with
      | true => exact .inl ⟨x, ⟨h1, hg⟩, h3⟩
      | false => exact .inr ⟨x, ⟨h1, hg⟩, h3⟩
  rw [e1]
  refine List.Perm.append_left _ ?_
  have e2 : ((kvL (laidM ch fr)).filter fun p => !(((ch.filter fun x => x.gone).map Ch.key).contains p.1)) = kvL (laidM ch fr) := by
    rw [List.filter_eq_self]
    intro p hp
    obtain ⟨y, hy, rfl⟩ := List.mem_map.1 hp
    rw [Bool.not_eq_true', Bool.eq_false_iff]
    intro hc
    rw [List.contains_iff_mem] at hc
    obtain ⟨x, hx, hxe⟩ := List.mem_map.1 hc
    have hm : y.key ∈ (ch.filter fun x => !x.gone).map Ch.key := by rw [← hk]; exact List.mem_map_of_mem hy
    obtain ⟨z, hz, hze⟩ := List.mem_map.1 hm
    have hxm := List.mem_filter.1 hx
    have hzm := List.mem_filter.1 hz
    have hxz : x = z := by
      have h5 : x.key = z.key := by rw [hxe, hze]
      clear hx hz hc hm hxe hze
      have h6 := hxm.1
      have h7 := hzm.1
      revert hn h6 h7
      clear e1 hmk hk hln hxm hzm hp hy
      induction ch with
      | nil => intro _ h; cases h
      | cons a r ih =>
        intro hn h6 h7
        rw [List.map_cons, List.nodup_cons] at hn
        rcases List.mem_cons.1 h6 with g1 | g1 <;> rcases List.mem_cons.1 h7 with g2 | g2
        · rw [g1, g2]
        · exact absurd (by rw [← g1, h5]; exact List.mem_map_of_mem (f := Ch.key) g2) hn.1
        · exact absurd (by rw [← g2, ← h5]; exact List.mem_map_of_mem (f := Ch.key) g1) hn.1
        · exact ih hn.2 g1 g2
    rw [hxz] at hxm
    have h8 := hzm.2
    rw [hxm.2] at h8
    cases h8
  rw [e2]
  exact .refl _

end Go.Proofs.YtflfaiakenahlaaGreatDoor.V
end

section
/-
  Layer 10 in plain words: what a set of changes comes to; the root page; what pages hold. No program here.
-/
namespace Go.Proofs.YtflfaiakenahlaaGreatDoor.V

/-- Leaves of an area of so many pages. -/
structure OkL (l : List Lf) (count : Nat) : Prop where
  srt : SrtL l
  pl : (l.map Lf.place).Nodup
  rng : ∀ y ∈ l, 1 ≤ y.place ∧ y.place < count
  fit : ∀ y ∈ l, (pageM y.key y.val).length ≤ 4096

theorem OkL.nil (count : Nat) : OkL [] count := ⟨.nil, .nil, fun _ h => (by cases h), fun _ h => (by cases h)⟩

theorem srtL_uniq {a b : List Lf} (ha : SrtL a) (hb : SrtL b) (hp : a.Perm b) : a = b :=
  List.Perm.eq_of_pairwise (le := fun a b : Lf => a.key < b.key) (fun a b _ _ h1 h2 => absurd (List.lt_trans h1 h2) (List.lt_irrefl _)) ha hb hp

/-- The places in use, rising. -/
def usedM (l : List Lf) (count : Nat) : List Nat := (List.range' 1 (count - 1)).filter fun p => l.any fun y => decide (y.place = p)

theorem mem_used {l : List Lf} {count p : Nat} (hr : ∀ y ∈ l, 1 ≤ y.place ∧ y.place < count) : p ∈ usedM l count ↔ p ∈ l.map Lf.place := by
  unfold usedM
  rw [List.mem_filter, List.mem_range'_1, List.any_eq_true, List.mem_map]
  constructor
  · rintro ⟨_, y, hy, he⟩; exact ⟨y, hy, of_decide_eq_true he⟩
  · rintro ⟨y, hy, rfl⟩
    have := hr y hy
    exact ⟨by omega, y, hy, decide_eq_true rfl⟩

theorem used_lt (l : List Lf) (count : Nat) : (usedM l count).Pairwise fun a b => a < b := List.Pairwise.sublist List.filter_sublist (List.pairwise_lt_range' ..)

theorem used_perm {l : List Lf} {count : Nat} (h : OkL l count) : (usedM l count).Perm (l.map Lf.place) :=
  (List.perm_ext_iff_of_nodup ((used_lt l count).imp fun {a b} (h : a < b) => Nat.ne_of_lt h) h.pl).2 fun _ => mem_used h.rng

theorem free_len {l : List Lf} {count : Nat} (h : OkL l count) : (freeM l count).length = count - 1 - l.length ∧ l.length ≤ count - 1 := by
  have h1 := (used_perm h).length_eq
  rw [List.length_map] at h1
  have h2 := (filter_split (fun p => (l.any fun y => decide (y.place = p)) = true) (List.range' 1 (count - 1))).length_eq
  rw [List.length_append, List.length_range'] at h2
  have e1 : ((List.range' 1 (count - 1)).filter fun p => decide ((l.any fun y => decide (y.place = p)) = true)) = usedM l count := by
    unfold usedM
    apply List.filter_congr
    intro p _
    rw [Bool.eq_iff_iff]; simp
  have e2 : ((List.range' 1 (count - 1)).filter fun p => decide (¬ (l.any fun y => decide (y.place = p)) = true)) = freeM l count := by
    unfold freeM
    apply List.filter_congr
    intro p _
    rw [Bool.eq_iff_iff]; simp
  rw [e1, e2] at h2
  omega

theorem mem_free {l : List Lf} {count p : Nat} : p ∈ freeM l count ↔ (1 ≤ p ∧ p < count) ∧ ∀ y ∈ l, y.place ≠ p := by
  unfold freeM
  rw [List.mem_filter, List.mem_range'_1, Bool.not_eq_true', List.any_eq_false]
  constructor
  · rintro ⟨h1, h2⟩; exact ⟨by omega, fun y hy he => h2 y hy (decide_eq_true he)⟩
  · rintro ⟨h1, h2⟩; exact ⟨by omega, fun y hy he => h2 y hy (of_decide_eq_true he)⟩

theorem free_lt (l : List Lf) (count : Nat) : (freeM l count).Pairwise fun a b => a < b := List.Pairwise.sublist List.filter_sublist (List.pairwise_lt_range' ..)

theorem laid_places : ∀ (ch : List Ch) (fr : List Nat), (ch.filter fun x => !x.gone).length ≤ fr.length → (laidM ch fr).map Lf.place = fr.take (ch.filter fun x => !x.gone).length
  | [], fr, _ => by simp [laidM]
  | x :: r, fr, h => by
    unfold laidM
    rw [List.filter_cons] at h ⊢
    cases hg : x.gone with
    | true =>
      rw [hg] at h
      simp only [if_true, Bool.not_true, Bool.false_eq_true, if_false] at h ⊢
      exact laid_places r fr h
    | false =>
      rw [hg] at h
      simp only [Bool.false_eq_true, if_false, Bool.not_false, if_true, List.map_cons, List.length_cons] at h ⊢
      cases fr with
      | nil => simp at h
      | cons p fr =>
        simp only [List.length_cons] at h
        rw [List.take_succ_cons]
        simp only [List.headD_cons, List.tail_cons]
        rw [laid_places r fr (by omega)]

theorem laid_len (ch : List Ch) (fr : List Nat) : (laidM ch fr).length = (ch.filter fun x => !x.gone).length := by
  have := congrArg List.length (laid_keys ch fr)
  simpa using this

theorem laid_mem : ∀ {ch : List Ch} {fr : List Nat} {y : Lf}, y ∈ laidM ch fr → ∃ x ∈ ch, x.gone = false ∧ y.key = x.key ∧ y.val = x.val
  | [], _, _, h => by cases h
  | x :: r, fr, y, h => by
    unfold laidM at h
    cases hg : x.gone with
    | true =>
      rw [hg] at h
      simp only [if_true] at h
      obtain ⟨z, h1, h2⟩ := laid_mem h
      exact ⟨z, .tail _ h1, h2⟩
    | false =>
      rw [hg] at h
      simp only [Bool.false_eq_true, if_false] at h
      rcases List.mem_cons.1 h with rfl | h
      · exact ⟨x, .head _, hg, rfl, rfl⟩
      · obtain ⟨z, h1, h2⟩ := laid_mem h
        exact ⟨z, .tail _ h1, h2⟩

/-- What is laid lies on places that were free. -/
theorem laid_free {l : List Lf} {count : Nat} {ch : List Ch} (hle : (ch.filter fun x => !x.gone).length ≤ (freeM l count).length) :
    ((laidM ch (freeM l count)).map Lf.place).Nodup ∧ ∀ y ∈ laidM ch (freeM l count), (1 ≤ y.place ∧ y.place < count) ∧ ∀ z ∈ l, z.place ≠ y.place := by
  have hp := laid_places ch (freeM l count) hle
  refine ⟨?_, fun y hy => ?_⟩
  · rw [hp]
    exact (((free_lt l count).imp fun {a b} (h : a < b) => Nat.ne_of_lt h).sublist (List.take_sublist _ _))
  · have hm : y.place ∈ (laidM ch (freeM l count)).map Lf.place := List.mem_map_of_mem hy
    rw [hp] at hm
    exact mem_free.1 ((List.take_sublist _ _).subset hm)

theorem apply_ok {l : List Lf} {count : Nat} {ch : List Ch} (h : OkL l count) (hn : (ch.map Ch.key).Nodup) (hle : (ch.filter fun x => !x.gone).length ≤ (freeM l count).length)
    (hfit : ∀ x ∈ ch, x.gone = false → (pageM x.key x.val).length ≤ 4096) : OkL (applyM l ch (freeM l count)) count := by
  have hp := apply_perm ch l (freeM l count) hn
  obtain ⟨h1, h2⟩ := laid_free (l := l) (count := count) hle
  have hk : ∀ y ∈ keptM l ch, y ∈ l := fun y hy => (List.mem_filter.1 hy).1
  refine ⟨apply_sorted _ _ _ h.srt, ?_, fun y hy => ?_, fun y hy => ?_⟩
  · rw [(hp.map _).nodup_iff, List.map_append, List.nodup_append]
    refine ⟨h.pl.sublist ((List.filter_sublist).map _), h1, ?_⟩
    intro a ha b hb he
    obtain ⟨y, hy, rfl⟩ := List.mem_map.1 ha
    obtain ⟨z, hz, rfl⟩ := List.mem_map.1 hb
    exact (h2 z hz).2 y (hk y hy) he
  · rcases List.mem_append.1 (hp.subset hy) with h3 | h3
    · exact h.rng y (hk y h3)
    · exact (h2 y h3).1
  · rcases List.mem_append.1 (hp.subset hy) with h3 | h3
    · exact h.fit y (hk y h3)
    · obtain ⟨x, hx, hg, e1, e2⟩ := laid_mem h3
      rw [e1, e2]
      exact hfit x hx hg

/-- What a set of changes comes to: the leaves, how many are laid, whether something changes, the error. -/
def setM (l : List Lf) (count : Nat) (c : List Ch) : List Lf × Nat × Bool × Nat :=
  if ((changesM l c).filter fun x => !x.gone).any (fun x => decide (4096 < (pageM x.key x.val).length)) then (l, 0, false, 2)
  else if count - 1 - l.length < ((changesM l c).filter fun x => !x.gone).length then (l, 0, false, 10)
  else (applyM l (changesM l c) (freeM l count), ((changesM l c).filter fun x => !x.gone).length, decide (0 < (changesM l c).length), 0)

theorem set_ok {l : List Lf} {count : Nat} {c : List Ch} (h : OkL l count) : OkL (setM l count c).1 count := by
  unfold setM
  split
  · exact h
  · rename_i h1
    split
    · exact h
    · rename_i h2
      refine apply_ok h (SrtC.nodup (changes_sorted l c)) ?_ ?_
      · rw [(free_len h).1]; omega
      · intro x hx hg
        rw [Bool.not_eq_true, List.any_eq_false] at h1
        have := h1 x (List.mem_filter.2 ⟨hx, by rw [hg]; rfl⟩)
        simp at this
        exact this

/-! ### The root page -/

def rootM (l : List Lf) (count : Nat) : List UInt8 := encU l.length ++ (usedM l count).flatMap encU

theorem flat_len : ∀ ps : List Nat, ps.length ≤ (ps.flatMap encU).length ∧ (ps.flatMap encU).length ≤ 2 * ps.length
  | [] => by simp
  | p :: r => by
    have h1 := encU_len p
    have h2 := flat_len r
    rw [List.flatMap_cons, List.length_append, List.length_cons]
    omega

theorem root_len {l : List Lf} {count : Nat} (h : OkL l count) : 1 ≤ (rootM l count).length ∧ (rootM l count).length ≤ 2 * l.length + 2 := by
  have h1 := encU_len l.length
  have h2 := flat_len (usedM l count)
  have h3 := (used_perm h).length_eq
  rw [List.length_map] at h3
  unfold rootM
  rw [List.length_append]
  omega

theorem root_sort {l : List Lf} {count : Nat} (h : OkL l count) {zs : List Int} (hz : zs.Perm (l.map fun y => (y.place : Int))) : srtN zs = (usedM l count).map fun p : Nat => (p : Int) := by
  refine srtN_uniq ?_ (hz.trans ?_)
  · rw [List.pairwise_map]
    exact (used_lt l count).imp fun {a b} (h : a < b) => by omega
  · have := ((used_perm h).map fun p : Nat => (p : Int)).symm
    rw [List.map_map] at this
    exact this

/-! ### What an area's pages hold -/

def openLoop (count : Nat) (pg : Nat → List UInt8) : Nat → RdM → Nat → List Lf → Option (RdM × List Lf)
  | 0, R, _, l => some (R, l)
  | n + 1, R, last, l =>
    if (uintM (count - 1) R).2 ≤ last then none
    else if doneM (bytesM 4096 (bytesM 4096 (pg (uintM (count - 1) R).2, 0)).1).1 ≠ 0 ∨ (findL l (bytesM 4096 (pg (uintM (count - 1) R).2, 0)).2).isSome = true then none
    else openLoop count pg n (uintM (count - 1) R).1 (uintM (count - 1) R).2
      (insK Lf.key l ⟨(bytesM 4096 (pg (uintM (count - 1) R).2, 0)).2, (bytesM 4096 (bytesM 4096 (pg (uintM (count - 1) R).2, 0)).1).2, (uintM (count - 1) R).2⟩)

def openM (count : Nat) (pg : Nat → List UInt8) : Option (List Lf) :=
  if pg 0 = [] then some []
  else match openLoop count pg (countM (count - 1) (pg 0, 0)).2 (countM (count - 1) (pg 0, 0)).1 0 [] with
    | none => none
    | some (R, l) => if doneM R ≠ 0 then none else some l

theorem pageM_len (k v : List UInt8) : k.length + v.length + 4 ≤ (pageM k v).length := by
  have h1 := encB_len k
  have h2 := encB_len v
  unfold pageM
  rw [List.length_append]
  omega

theorem findL_none {l : List Lf} {k : List UInt8} (h : ∀ y ∈ l, y.key ≠ k) : findL l k = none := by
  unfold findL
  rw [List.find?_eq_none]
  intro y hy
  simp [h y hy]

theorem openLoop_ok (count : Nat) (hc : count ≤ 256) (pg : Nat → List UInt8) : ∀ (ys : List Lf) (last : Nat) (acc : List Lf), ys.Pairwise (fun a b => a.place < b.place) → (∀ y ∈ ys, last < y.place ∧ y.place < count) →
    (∀ y ∈ ys, (pageM y.key y.val).length ≤ 4096 ∧ pg y.place = pageM y.key y.val) → ((acc ++ ys).map Lf.key).Nodup →
    openLoop count pg ys.length ((ys.map Lf.place).flatMap encU, 0) last acc = some (([], 0), ys.foldl (insK Lf.key) acc)
  | [], _, acc, _, _, _, _ => rfl
  | y :: r, last, acc, hp, hr, hl, hn => by
    rw [List.pairwise_cons] at hp
    obtain ⟨h1, h2⟩ := hr y (.head _)
    obtain ⟨h3, h4⟩ := hl y (.head _)
    have hpl := pageM_len y.key y.val
    have e1 : uintM (count - 1) (((y :: r).map Lf.place).flatMap encU, 0) = (((r.map Lf.place).flatMap encU, 0), y.place) := by
      rw [List.map_cons, List.flatMap_cons]
      exact uintM_encU (by omega) (by omega) _
    have e2 : bytesM 4096 (pg y.place, 0) = ((encB y.val, 0), y.key) := by
      rw [h4]
      exact bytesM_encB _ _ (by omega)
    have e3 : bytesM 4096 (encB y.val, 0) = (([], 0), y.val) := by
      have := bytesM_encB (most := 4096) y.val [] (by omega)
      rw [List.append_nil] at this
      exact this
    have hy : ∀ z ∈ acc, z.key ≠ y.key := fun z hz he => by
      rw [List.map_append, List.nodup_append] at hn
      exact hn.2.2 _ (List.mem_map_of_mem hz) _ (by rw [List.map_cons]; exact .head _) he
    rw [List.length_cons]
    unfold openLoop
    simp only [e1, e2, e3]
    rw [if_neg (by omega), findL_none hy]
    rw [if_neg (by simp [doneM])]
    rw [List.foldl_cons]
    refine openLoop_ok count hc pg r y.place _ hp.2 (fun z hz => ⟨hp.1 z hz, (hr z (.tail _ hz)).2⟩) (fun z hz => hl z (.tail _ hz)) ?_
    have hp2 : (insK Lf.key acc ⟨y.key, y.val, y.place⟩ ++ r).Perm (acc ++ y :: r) := ((insK_perm Lf.key acc y).append_right r).trans List.perm_middle.symm
    exact ((hp2.map _).nodup_iff).2 hn

theorem foldl_insL : ∀ (xs acc : List Lf), ((acc ++ xs).map Lf.key).Nodup → SrtL acc → SrtL (xs.foldl (insK Lf.key) acc) ∧ (xs.foldl (insK Lf.key) acc).Perm (acc ++ xs)
  | [], acc, _, h => ⟨h, by simp⟩
  | x :: xs, acc, hn, h => by
    have hx : ∀ y ∈ acc, y.key ≠ x.key := fun y hy he => by
      rw [List.map_append, List.nodup_append] at hn
      exact hn.2.2 _ (List.mem_map_of_mem hy) _ (by rw [List.map_cons]; exact .head _) he
    have hp := insK_perm Lf.key acc x
    have hp2 : (insK Lf.key acc x ++ xs).Perm (acc ++ x :: xs) := (hp.append_right xs).trans List.perm_middle.symm
    have := foldl_insL xs (insK Lf.key acc x) (((hp2.map _).nodup_iff).2 hn) (insK_sorted Lf.key h hx)
    exact ⟨this.1, this.2.trans hp2⟩

/-- The leaves by rising place. -/
theorem by_place {l : List Lf} {count : Nat} (h : OkL l count) : ∃ ys : List Lf, ys.Perm l ∧ ys.map Lf.place = usedM l count := by
  refine ⟨l.mergeSort fun a b => decide (a.place ≤ b.place), List.mergeSort_perm _ _, ?_⟩
  have hp : (l.mergeSort fun a b => decide (a.place ≤ b.place)).Perm l := List.mergeSort_perm _ _
  refine List.Perm.eq_of_pairwise (le := fun a b : Nat => a ≤ b) (fun a b _ _ h1 h2 => by omega) ?_ ((used_lt l count).imp fun {a b} (h : a < b) => Nat.le_of_lt h) ((hp.map _).trans (used_perm h).symm)
  rw [List.pairwise_map]
  have := List.pairwise_mergeSort (le := fun a b : Lf => decide (a.place ≤ b.place)) (fun a b c h1 h2 => by
      simp only [decide_eq_true_eq] at h1 h2 ⊢
      omega) (fun a b => by
      simp only [Bool.or_eq_true, decide_eq_true_eq]
      omega) l
  exact this.imp fun h => by simpa using h

/-- Opened again there is what was laid. -/
theorem open_laid {l : List Lf} {count : Nat} {pg : Nat → List UInt8} (h : OkL l count) (hc : count ≤ 256) (hroot : pg 0 = rootM l count ∨ (l = [] ∧ pg 0 = [])) (hleaf : ∀ y ∈ l, pg y.place = pageM y.key y.val) : openM count pg = some l := by
  rcases hroot with hroot | ⟨rfl, h0⟩
  · have hne : pg 0 ≠ [] := fun he => by
      have := (root_len h).1
      rw [← hroot, he] at this
      simp at this
    obtain ⟨ys, hy1, hy2⟩ := by_place h
    have hlen : ys.length = l.length := hy1.length_eq
    have hfl := flat_len (usedM l count)
    have hul := (used_perm h).length_eq
    rw [List.length_map] at hul
    have hll := (free_len h).2
    have e1 : countM (count - 1) (pg 0, 0) = (((ys.map Lf.place).flatMap encU, 0), ys.length) := by
      rw [hroot, hlen, hy2]
      exact countM_encU (by omega) (by omega) _ (by omega)
    have hpw : ys.Pairwise fun a b => a.place < b.place := by
      have := used_lt l count
      rw [← hy2, List.pairwise_map] at this
      exact this
    have hnd : (ys.map Lf.key).Nodup := ((hy1.map _).nodup_iff).2 h.srt.nodup
    have e2 := openLoop_ok count hc pg ys 0 [] hpw (fun y hy => ⟨(h.rng y (hy1.subset hy)).1, (h.rng y (hy1.subset hy)).2⟩) (fun y hy => ⟨h.fit y (hy1.subset hy), hleaf y (hy1.subset hy)⟩) (by simpa using hnd)
    have h3 := foldl_insL ys [] (by simpa using hnd) .nil
    unfold openM
    rw [if_neg hne, e1]
    simp only [e2]
    rw [if_neg (by simp [doneM])]
    congr 1
    exact srtL_uniq h3.1 h.srt (h3.2.trans (by simpa using hy1))
  · unfold openM
    rw [if_pos h0]

end Go.Proofs.YtflfaiakenahlaaGreatDoor.V
end
