/-
  The document's store of pages: Sync, Start, Read.
-/
import Derived.Test.YtoiehgiokfnmkaaDoorPagesRef3
namespace Go.Proofs.YtoiehgiokfnmkaaDoor
open Go.Proofs.YtoiehgiokfnmkaaDoor.V

theorem upto_contains {n i : Nat} (h : i < n) : ((List.range n).map fun j : Nat => (j : Int)).contains (i : Int) = true := by
  rw [List.contains_iff_mem, List.mem_map]
  exact ⟨i, List.mem_range.2 h, rfl⟩

set_option maxHeartbeats 1000000 in
theorem rsync_spec [Strm] (s : St) (x : RX) (hQl : s.Q.length ≤ 1000000) (w : World) (X G : List (Nat × Obj)) (hG : ∀ p ∈ G, p ∈ X) (hR : RefIn G s x) (H : SL w X) :
    Does Tryd.prog 17 #[RVal s x] w fun r w' => ∃ B x', r = .tuple #[RVal s.sync.1 x', .int .i64 (s.sync.2 : Int)] ∧ RefIn (B ++ G) s.sync.1 x' ∧ SL w' (B ++ X) := by
  by_cases h3 : s.down = true
  · rw [show s.sync = (s, 13) by simp [St.sync, h3]]
    refine Does.intro (args := [_]) (e := [(0, _)]) Tryd.func17 rfl Tryd.ntmps17 rfl rfl ?_
    repeat (first | refine RunsE.seq ?_ | refine RunsE.skip ?_ | refine RunsE.block ?_ | refine RunsE.inBlock ?_ | refine RunsE.yes rfl ?_ | refine RunsE.no rfl ?_ | refine RunsE.exit rfl ?_)
    repeat (first | refine RunsE.seq ?_ | refine RunsE.skip ?_ | refine RunsE.block ?_ | refine RunsE.inBlock ?_ | refine RunsE.yes rfl ?_ | refine RunsE.no rfl ?_ | refine RunsE.exit rfl ?_)
    refine RunsE.region ?_
    refine OpsE.ex (Ex.box H rfl) rfl ?_; (try clear H); rintro _ w ⟨b1, rfl, H⟩; simp only [Value.cells] at H
    refine OpsE.ex (Ex.alloc (zv := .agg #[.slice none 0 0, .slice none 0 0, .int .i64 0, .bool false]) H (by kernel_rfl)) rfl ?_; (try clear H); rintro _ w ⟨b2, rfl, H⟩; simp only [Value.cells] at H
    refine OpsE.ev (Ev.assign rfl) rfl ?_
    refine OpsE.nil ?_
    repeat (first | refine RunsE.seq ?_ | refine RunsE.skip ?_ | refine RunsE.block ?_ | refine RunsE.inBlock ?_ | refine RunsE.yes rfl ?_ | refine RunsE.no rfl ?_ | refine RunsE.exit rfl ?_)
    refine RunsE.region ?_
    refine OpsE.ev (Ev.fieldAddr (o := 3) rfl (by kernel_rfl)) rfl ?_
    refine OpsE.ev (Ev.load (v := .bool true) H rfl (by kernel_rfl) (Rd.mk m1 (by rw [← h3]; rfl))) rfl ?_
    refine OpsE.nil ?_
    repeat (first | refine RunsE.seq ?_ | refine RunsE.skip ?_ | refine RunsE.block ?_ | refine RunsE.inBlock ?_ | refine RunsE.yes rfl ?_ | refine RunsE.no rfl ?_ | refine RunsE.exit rfl ?_)
    refine RunsE.region ?_
    refine OpsE.ev (Ev.loadBlk (n := 4) (vs := refV s x) H rfl (by kernel_rfl) rfl m1) rfl ?_
    refine OpsE.exn (Ex.storeBlk (n := 4) (vs := refV s x) H rfl rfl (by kernel_rfl) rfl (refV_one s x) u0 rfl (Thaw.zero _ _)) ?_; (try clear H); intro _ w H
    refine OpsE.ev (Ev.assign rfl) rfl ?_
    refine OpsE.nil ?_
    repeat (first | refine RunsE.seq ?_ | refine RunsE.skip ?_ | refine RunsE.block ?_ | refine RunsE.inBlock ?_ | refine RunsE.yes rfl ?_ | refine RunsE.no rfl ?_ | refine RunsE.exit rfl ?_)
    exact RunsE.retAggTmp (m := 4) H Tryd.func17 rfl rfl rfl (by kernel_rfl) rfl m0 ⟨[], x, rfl, hR, H.drop.drop⟩
  have h3' : s.down = false := by simpa using h3
  obtain ⟨s1, hs1⟩ : ∃ s1, s1 = s.step.1 := ⟨_, rfl⟩
  have hR1 : RefIn G s1 x := by rw [hs1]; exact hR.congr (step_P s) (step_Q s) (St.step_ok hR.ok)
  have hq1 : s1.Q.length ≤ 1000000 := by rw [hs1, step_Q]; exact hQl
  refine Does.intro (args := [_]) (e := [(0, _)]) Tryd.func17 rfl Tryd.ntmps17 rfl rfl ?_
  repeat (first | refine RunsE.seq ?_ | refine RunsE.skip ?_ | refine RunsE.block ?_ | refine RunsE.inBlock ?_ | refine RunsE.yes rfl ?_ | refine RunsE.no rfl ?_ | refine RunsE.exit rfl ?_)
  repeat (first | refine RunsE.seq ?_ | refine RunsE.skip ?_ | refine RunsE.block ?_ | refine RunsE.inBlock ?_ | refine RunsE.yes rfl ?_ | refine RunsE.no rfl ?_ | refine RunsE.exit rfl ?_)
  refine RunsE.region ?_
  refine OpsE.ex (Ex.box H rfl) rfl ?_; (try clear H); rintro _ w ⟨b1, rfl, H⟩; simp only [Value.cells] at H
  refine OpsE.ex (Ex.alloc (zv := .agg #[.slice none 0 0, .slice none 0 0, .int .i64 0, .bool false]) H (by kernel_rfl)) rfl ?_; (try clear H); rintro _ w ⟨b2, rfl, H⟩; simp only [Value.cells] at H
  refine OpsE.ev (Ev.assign rfl) rfl ?_
  refine OpsE.nil ?_
  repeat (first | refine RunsE.seq ?_ | refine RunsE.skip ?_ | refine RunsE.block ?_ | refine RunsE.inBlock ?_ | refine RunsE.yes rfl ?_ | refine RunsE.no rfl ?_ | refine RunsE.exit rfl ?_)
  refine RunsE.region ?_
  refine OpsE.ev (Ev.fieldAddr (o := 3) rfl (by kernel_rfl)) rfl ?_
  refine OpsE.ev (Ev.load (v := .bool false) H rfl (by kernel_rfl) (Rd.mk m1 (by rw [← h3']; rfl))) rfl ?_
  refine OpsE.nil ?_
  repeat (first | refine RunsE.seq ?_ | refine RunsE.skip ?_ | refine RunsE.block ?_ | refine RunsE.inBlock ?_ | refine RunsE.yes rfl ?_ | refine RunsE.no rfl ?_ | refine RunsE.exit rfl ?_)
  refine RunsE.region ?_
  refine OpsE.ev (Ev.loadBlk (n := 4) (vs := refV s x) H rfl (by kernel_rfl) rfl m1) rfl ?_
  refine OpsE.ex (Ex.call rfl Tryd.call32 (rstep_spec s x hR.ok.left w _ H)) rfl ?_; (try clear H); rw [← hs1]; rintro _ w ⟨rfl, H⟩
  refine OpsE.ev (Ev.move rfl) rfl ?_
  refine OpsE.ev (Ev.extract rfl rfl) rfl ?_
  refine OpsE.ev (Ev.extract rfl rfl) rfl ?_
  refine OpsE.exn (Ex.storeBlk (n := 4) (vs := refV s1 x) H rfl rfl (by kernel_rfl) rfl (refV_one _ _) u1 rfl (Thaw.zero _ _)) ?_; (try clear H); intro _ w H
  refine OpsE.ev (Ev.assign rfl) rfl ?_
  refine OpsE.nil ?_
  by_cases h4 : s.step.2 = 0
  · rw [show s.sync = (s1.settle fun _ => true, 0) by simp [St.sync, h3', h4, hs1]]
    repeat (first | refine RunsE.seq ?_ | refine RunsE.skip ?_ | refine RunsE.block ?_ | refine RunsE.inBlock ?_ | refine RunsE.yes rfl ?_ | refine RunsE.no rfl ?_ | refine RunsE.exit rfl ?_)
    refine RunsE.region ?_
    refine OpsE.ev (Ev.move rfl) rfl ?_
    refine OpsE.ev (Ev.neq (r := false) rfl rfl (by rw [h4]; rfl)) rfl ?_
    refine OpsE.nil ?_
    repeat (first | refine RunsE.seq ?_ | refine RunsE.skip ?_ | refine RunsE.block ?_ | refine RunsE.inBlock ?_ | refine RunsE.yes rfl ?_ | refine RunsE.no rfl ?_ | refine RunsE.exit rfl ?_)
    refine RunsE.region ?_
    refine OpsE.ev (Ev.assign rfl) rfl ?_
    refine OpsE.nil ?_
    repeat (first | refine RunsE.seq ?_ | refine RunsE.skip ?_ | refine RunsE.block ?_ | refine RunsE.inBlock ?_ | refine RunsE.yes rfl ?_ | refine RunsE.no rfl ?_ | refine RunsE.exit rfl ?_)
    refine RunsE.region ?_
    refine OpsE.ev (Ev.assign rfl) rfl ?_
    refine OpsE.nil ?_
    repeat refine RunsE.seq ?_
    refine RunsE.join (fun v : Value => [(1, .pointer (some ⟨b1, 0, none⟩)), (2, .pointer (some ⟨b2, 0, none⟩)), (5, v)])
      (fun v w => ∃ Bk, Slc gI 1 3 v ((List.range s1.Q.length).map fun j : Nat => (j : Int)) Bk ∧ SL w (Bk ++ ((b2, .cells #[.slice none 0 0, .slice none 0 0, .int .i64 0, .bool false] 41 (0, 0)) :: (b1, .cells (refV s1 x).toArray 41 (0, 0)) :: X))) (fun next => ?_) ?_
    · refine RunsE.block ?_
      refine RunsE.loop (fun i : Nat × Value => [(1, .pointer (some ⟨b1, 0, none⟩)), (2, .pointer (some ⟨b2, 0, none⟩)), (5, i.2), (6, .int .i64 (i.1 : Int))])
        (fun i w => i.1 ≤ s1.Q.length ∧ ∃ Bk, Slc gI 1 3 i.2 ((List.range i.1).map fun j : Nat => (j : Int)) Bk ∧ SL w (Bk ++ ((b2, .cells #[.slice none 0 0, .slice none 0 0, .int .i64 0, .bool false] 41 (0, 0)) :: (b1, .cells (refV s1 x).toArray 41 (0, 0)) :: X)))
        (fun i => s1.Q.length - i.1) (0, .slice none 0 0) ⟨rfl, rfl, rfl, rfl, trivial⟩ ⟨by simp only; omega, [], .nil, H⟩ ?_
      clear H
      rintro ⟨i, v⟩ w ⟨hi, Bk, hk, H⟩ nextL
      simp only at hi hk
      by_cases h1 : i = s1.Q.length
      ·
        repeat (first | refine RunsE.seq ?_ | refine RunsE.skip ?_ | refine RunsE.block ?_ | refine RunsE.inBlock ?_ | refine RunsE.yes rfl ?_ | refine RunsE.no rfl ?_ | refine RunsE.exit rfl ?_)
        refine RunsE.region ?_
        refine OpsE.ev (Ev.move rfl) rfl ?_
        refine OpsE.ev (Ev.fieldAddr (o := 1) rfl (by kernel_rfl)) rfl ?_
        refine OpsE.ev (Ev.load (v := .slice x.la s1.Q.length x.lc) H rfl (by kernel_rfl) (Rd.right (Rd.mk m1 rfl))) rfl ?_
        refine OpsE.ev (Ev.lenSl (d := 74) rfl rfl (by kernel_rfl)) rfl ?_
        refine OpsE.ev (Ev.lss (r := false) rfl rfl (decide_eq_false (by simp only; omega))) rfl ?_
        refine OpsE.nil ?_
        repeat refine RunsE.seq ?_
        refine RunsE.no rfl ?_
        refine RunsE.exit rfl ?_
        rw [h1] at hk
        exact next v _ _ ⟨Bk, hk, H⟩ ⟨rfl, rfl, rfl, trivial⟩
      clear next
      repeat (first | refine RunsE.seq ?_ | refine RunsE.skip ?_ | refine RunsE.block ?_ | refine RunsE.inBlock ?_ | refine RunsE.yes rfl ?_ | refine RunsE.no rfl ?_ | refine RunsE.exit rfl ?_)
      refine RunsE.region ?_
      refine OpsE.ev (Ev.move rfl) rfl ?_
      refine OpsE.ev (Ev.fieldAddr (o := 1) rfl (by kernel_rfl)) rfl ?_
      refine OpsE.ev (Ev.load (v := .slice x.la s1.Q.length x.lc) H rfl (by kernel_rfl) (Rd.right (Rd.mk m1 rfl))) rfl ?_
      refine OpsE.ev (Ev.lenSl (d := 74) rfl rfl (by kernel_rfl)) rfl ?_
      refine OpsE.ev (Ev.lss (r := true) rfl rfl (decide_eq_true (by simp only; omega))) rfl ?_
      refine OpsE.nil ?_
      repeat (first | refine RunsE.seq ?_ | refine RunsE.skip ?_ | refine RunsE.block ?_ | refine RunsE.inBlock ?_ | refine RunsE.yes rfl ?_ | refine RunsE.no rfl ?_ | refine RunsE.exit rfl ?_)
      repeat (first | refine RunsE.seq ?_ | refine RunsE.skip ?_ | refine RunsE.block ?_ | refine RunsE.inBlock ?_ | refine RunsE.yes rfl ?_ | refine RunsE.no rfl ?_ | refine RunsE.exit rfl ?_)
      refine RunsE.region ?_
      refine OpsE.ev (Ev.move rfl) rfl ?_
      refine OpsE.ev (Ev.move rfl) rfl ?_
      refine OpsE.ex (Ex.buildSl (T := 3) (zv := .int .i64 0) H rfl (by kernel_rfl) (by kernel_rfl) (by simp [Value.oneCell']) rfl (by omega) (by omega)) rfl ?_; (try clear H); rintro _ w ⟨b28, rfl, H⟩
      refine OpsE.ex (Ex.append (T := 3) (g := gI) (by_ := 8) (zv := .int .i64 0) (xs := (List.range i).map fun j : Nat => (j : Int)) (ys := [(i : Int)]) H.drop rfl rfl hk (Src.row0 H m0 rfl) (fun _ => rfl) (by simp [Value.oneCell']) (by kernel_rfl) (by kernel_rfl) (by kernel_rfl) (by kernel_rfl) rfl (by simp only [List.length_singleton, List.length_map, List.length_range]; omega) (by simp only [List.length_singleton, List.length_map, List.length_range]; omega)) rfl ?_; (try clear H); rintro v' w ⟨Bk, hk, H⟩
      refine OpsE.ev (Ev.assign rfl) rfl ?_
      refine OpsE.nil ?_
      repeat (first | refine RunsE.seq ?_ | refine RunsE.skip ?_ | refine RunsE.block ?_ | refine RunsE.inBlock ?_ | refine RunsE.yes rfl ?_ | refine RunsE.no rfl ?_ | refine RunsE.exit rfl ?_)
      refine RunsE.region ?_
      refine OpsE.ev (Ev.move rfl) rfl ?_
      refine OpsE.ev (Ev.add rfl rfl) rfl ?_
      refine OpsE.ev (Ev.assign rfl) rfl ?_
      refine OpsE.nil ?_
      refine nextL (i + 1, v') _ _ (by simp only; omega) ⟨by simp only; omega, Bk, ?_, H⟩ ⟨rfl, rfl, rfl, rfl, trivial⟩
      rw [List.range_succ, List.map_append]
      exact hk
    clear H
    rintro v w ⟨Bk, hk, H⟩
    have hkw : ∀ z ∈ (List.range s1.Q.length).map (fun j : Nat => (j : Int)), (Lit.int .i64 z).wf = true := by
      intro z hz
      obtain ⟨j, hj, rfl⟩ := List.mem_map.1 hz
      have := List.mem_range.1 hj
      simp only [Lit.wf, IntKind.min, IntKind.max, IntKind.signed, IntKind.bits]
      simp
      omega
    repeat (first | refine RunsE.seq ?_ | refine RunsE.skip ?_ | refine RunsE.block ?_ | refine RunsE.inBlock ?_ | refine RunsE.yes rfl ?_ | refine RunsE.no rfl ?_ | refine RunsE.exit rfl ?_)
    refine RunsE.region ?_
    refine OpsE.ev (Ev.loadBlk (n := 4) (vs := refV s1 x) H rfl (by kernel_rfl) rfl (List.mem_append_right Bk m1)) rfl ?_
    refine OpsE.ev (Ev.move rfl) rfl ?_
    refine OpsE.ex (Ex.call rfl Tryd.call33 (rdone_spec s1 x ((List.range s1.Q.length).map fun j : Nat => (j : Int)) _ (by rw [List.length_map, List.length_range]; omega) hq1 w _ G (fun y hy => List.mem_append_right _ (.tail _ (.tail _ (hG y hy)))) hR1 (hk.ints hkw) H)) rfl ?_; (try clear H); rw [settle_congr fun i hi => upto_contains hi]; rintro _ w ⟨B, x', rfl, hR', H⟩
    refine OpsE.exn (Ex.storeBlk (n := 4) (vs := refV (s1.settle fun _ => true) x') H rfl rfl (by kernel_rfl) rfl (refV_one _ _) (Upd.skip (Upd.skip u0 Bk) B) rfl (Thaw.zero _ _)) ?_; (try clear H); intro _ w H
    refine OpsE.ev (Ev.assign rfl) rfl ?_
    refine OpsE.nil ?_
    repeat (first | refine RunsE.seq ?_ | refine RunsE.skip ?_ | refine RunsE.block ?_ | refine RunsE.inBlock ?_ | refine RunsE.yes rfl ?_ | refine RunsE.no rfl ?_ | refine RunsE.exit rfl ?_)
    refine RunsE.retAggTmp (m := 4) H Tryd.func17 rfl rfl rfl (by kernel_rfl) rfl (List.mem_append_right B (List.mem_append_right Bk m0)) ⟨B, x', rfl, hR', ?_⟩
    exact (H.perm (List.Perm.refl _)).dropIn.dropMid.dropMid
  · rw [show s.sync = (s1, s.step.2) by simp [St.sync, h3', h4, hs1]]
    repeat (first | refine RunsE.seq ?_ | refine RunsE.skip ?_ | refine RunsE.block ?_ | refine RunsE.inBlock ?_ | refine RunsE.yes rfl ?_ | refine RunsE.no rfl ?_ | refine RunsE.exit rfl ?_)
    refine RunsE.region ?_
    refine OpsE.ev (Ev.move rfl) rfl ?_
    refine OpsE.ev (Ev.neq (r := true) rfl rfl (bne_iff_ne.2 (by omega))) rfl ?_
    refine OpsE.nil ?_
    repeat (first | refine RunsE.seq ?_ | refine RunsE.skip ?_ | refine RunsE.block ?_ | refine RunsE.inBlock ?_ | refine RunsE.yes rfl ?_ | refine RunsE.no rfl ?_ | refine RunsE.exit rfl ?_)
    refine RunsE.region ?_
    refine OpsE.ev (Ev.loadBlk (n := 4) (vs := refV s1 x) H rfl (by kernel_rfl) rfl m1) rfl ?_
    refine OpsE.ev (Ev.move rfl) rfl ?_
    refine OpsE.exn (Ex.storeBlk (n := 4) (vs := refV s1 x) H rfl rfl (by kernel_rfl) rfl (refV_one _ _) u0 rfl (Thaw.zero _ _)) ?_; (try clear H); intro _ w H
    refine OpsE.ev (Ev.assign rfl) rfl ?_
    refine OpsE.nil ?_
    repeat (first | refine RunsE.seq ?_ | refine RunsE.skip ?_ | refine RunsE.block ?_ | refine RunsE.inBlock ?_ | refine RunsE.yes rfl ?_ | refine RunsE.no rfl ?_ | refine RunsE.exit rfl ?_)
    exact RunsE.retAggTmp (m := 4) H Tryd.func17 rfl rfl rfl (by kernel_rfl) rfl m0 ⟨[], x, rfl, hR1, H.drop.drop⟩

theorem rstart_spec [Strm] (s : St) (x : RX) (zs : List Int) (v : Value) (hz : zs.length ≤ 9223372036854775807) (hQl : s.Q.length ≤ 1000000) (w : World) (X G : List (Nat × Obj)) (hG : ∀ p ∈ G, p ∈ X) (hR : RefIn G s x) (hv : IntsIn .i64 X v zs) (H : SL w X) :
    Does Tryd.prog 21 #[RVal s x, v] w fun r w' => ∃ B x', r = RVal (s.start fun i : Nat => zs.contains (i : Int)) x' ∧ RefIn (B ++ G) (s.start fun i : Nat => zs.contains (i : Int)) x' ∧ SL w' (B ++ X) := by
  obtain ⟨av, cv, rfl, hcv⟩ := hv.len
  refine Does.intro (args := [_, _]) (e := [(0, _), (1, _)]) Tryd.func21 rfl Tryd.ntmps21 rfl rfl ?_
  repeat (first | refine RunsE.seq ?_ | refine RunsE.skip ?_ | refine RunsE.block ?_ | refine RunsE.inBlock ?_ | refine RunsE.yes rfl ?_ | refine RunsE.no rfl ?_ | refine RunsE.exit rfl ?_)
  repeat (first | refine RunsE.seq ?_ | refine RunsE.skip ?_ | refine RunsE.block ?_ | refine RunsE.inBlock ?_ | refine RunsE.yes rfl ?_ | refine RunsE.no rfl ?_ | refine RunsE.exit rfl ?_)
  refine RunsE.region ?_
  refine OpsE.ex (Ex.box H rfl) rfl ?_; (try clear H); rintro _ w ⟨b2, rfl, H⟩; simp only [Value.cells] at H
  refine OpsE.ex (Ex.alloc (zv := .agg #[.slice none 0 0, .slice none 0 0, .int .i64 0, .bool false]) H (by kernel_rfl)) rfl ?_; (try clear H); rintro _ w ⟨b4, rfl, H⟩; simp only [Value.cells] at H
  refine OpsE.nil ?_
  repeat (first | refine RunsE.seq ?_ | refine RunsE.skip ?_ | refine RunsE.block ?_ | refine RunsE.inBlock ?_ | refine RunsE.yes rfl ?_ | refine RunsE.no rfl ?_ | refine RunsE.exit rfl ?_)
  refine RunsE.region ?_
  refine OpsE.ev (Ev.loadBlk (n := 4) (vs := refV s x) H rfl (by kernel_rfl) rfl m1) rfl ?_
  refine OpsE.ev (Ev.move rfl) rfl ?_
  refine OpsE.ex (Ex.call rfl Tryd.call33 (rdone_spec s x zs _ hz hQl w _ G (fun y hy => .tail _ (.tail _ (hG y hy))) hR (Els.sub hv (fun _ h => .tail _ (.tail _ h)) fun _ _ h => h) H)) rfl ?_; (try clear H); rintro _ w ⟨B, x', rfl, hR', H⟩
  refine OpsE.exn (Ex.storeBlk (n := 4) (vs := refV (s.settle fun i : Nat => zs.contains (i : Int)) x') H rfl rfl (by kernel_rfl) rfl (refV_one _ _) (Upd.skip u1 B) rfl (Thaw.zero _ _)) ?_; (try clear H); intro _ w H
  refine OpsE.nil ?_
  obtain ⟨s1, hs1⟩ : ∃ s1, s1 = s.settle fun i : Nat => zs.contains (i : Int) := ⟨_, rfl⟩
  have hst : (s.start fun i : Nat => zs.contains (i : Int)) = { s1 with down := false, armed := false } := by rw [hs1]; rfl
  rw [hst]
  rw [← hs1] at H hR'
  repeat (first | refine RunsE.seq ?_ | refine RunsE.skip ?_ | refine RunsE.block ?_ | refine RunsE.inBlock ?_ | refine RunsE.yes rfl ?_ | refine RunsE.no rfl ?_ | refine RunsE.exit rfl ?_)
  refine RunsE.region ?_
  refine OpsE.ev (Ev.fieldAddr (o := 3) rfl (by kernel_rfl)) rfl ?_
  refine OpsE.exn (Ex.store1 (cs' := #[.slice x'.pa s1.P.length x'.pc, .slice x'.la s1.Q.length x'.lc, .int .i64 (stepsOf s1), .bool false]) H rfl rfl (by kernel_rfl) rfl (Upd.skip u1 B) (by simp [refV]) (Thaw.zero _ _) rfl) ?_; (try clear H); intro _ w H
  refine OpsE.ev (Ev.fieldAddr (o := 2) rfl (by kernel_rfl)) rfl ?_
  refine OpsE.exn (Ex.store1 (cs' := (refV { s1 with down := false, armed := false } x').toArray) H rfl rfl (by kernel_rfl) rfl (Upd.skip u1 B) (by simp) (Thaw.zero _ _) rfl) ?_; (try clear H); intro _ w H
  refine OpsE.nil ?_
  repeat (first | refine RunsE.seq ?_ | refine RunsE.skip ?_ | refine RunsE.block ?_ | refine RunsE.inBlock ?_ | refine RunsE.yes rfl ?_ | refine RunsE.no rfl ?_ | refine RunsE.exit rfl ?_)
  refine RunsE.region ?_
  refine OpsE.ev (Ev.loadBlk (n := 4) (vs := refV { s1 with down := false, armed := false } x') H rfl (by kernel_rfl) rfl (List.mem_append_right B m1)) rfl ?_
  refine OpsE.exn (Ex.storeBlk (n := 4) (vs := refV { s1 with down := false, armed := false } x') H rfl rfl (by kernel_rfl) rfl (refV_one _ _) (Upd.skip u0 B) rfl (Thaw.zero _ _)) ?_; (try clear H); intro _ w H
  refine OpsE.nil ?_
  repeat (first | refine RunsE.seq ?_ | refine RunsE.skip ?_ | refine RunsE.block ?_ | refine RunsE.inBlock ?_ | refine RunsE.yes rfl ?_ | refine RunsE.no rfl ?_ | refine RunsE.exit rfl ?_)
  have ok := hR'.ok
  exact RunsE.retBlk (m := 4) H Tryd.func21 rfl rfl (by kernel_rfl) rfl (List.mem_append_right B m0) ⟨B, x', rfl, hR'.congr rfl rfl ⟨ok.1, ok.2, ok.3, ok.4, ok.5⟩, H.dropMid.dropMid⟩

set_option maxHeartbeats 1000000 in
theorem rread_spec [Strm] (s : St) (page : Int) (x : RX) (hQl : s.Q.length ≤ 1000000) (w : World) (X G : List (Nat × Obj)) (hG : ∀ p ∈ G, p ∈ X) (hR : RefIn G s x) (H : SL w X) :
    Does Tryd.prog 18 #[RVal s x, .int .i64 page] w fun r w' => ∃ v, r = .tuple #[v, .int .i64 ((s.read page).2 : Int)] ∧ Inp G v (s.read page).1 ∧ SL w' X := by
  by_cases h1 : s.has page = false
  · rw [read_has h1]
    have h1' : ¬ (0 ≤ page ∧ page < s.P.length) := by
      intro h
      simp only [St.has, Bool.and_eq_false_iff, decide_eq_false_iff_not] at h1
      omega
    refine Does.intro (args := [_, _]) (e := [(0, _), (1, _)]) Tryd.func18 rfl Tryd.ntmps18 rfl rfl ?_
    repeat (first | refine RunsE.seq ?_ | refine RunsE.skip ?_ | refine RunsE.block ?_ | refine RunsE.inBlock ?_ | refine RunsE.yes rfl ?_ | refine RunsE.no rfl ?_ | refine RunsE.exit rfl ?_)
    repeat (first | refine RunsE.seq ?_ | refine RunsE.skip ?_ | refine RunsE.block ?_ | refine RunsE.inBlock ?_ | refine RunsE.yes rfl ?_ | refine RunsE.no rfl ?_ | refine RunsE.exit rfl ?_)
    refine RunsE.region ?_
    refine OpsE.ex (Ex.box H rfl) rfl ?_; (try clear H); rintro _ w ⟨b2, rfl, H⟩; simp only [Value.cells] at H
    refine OpsE.ev (Ev.assign rfl) rfl ?_
    refine OpsE.ev (Ev.assign rfl) rfl ?_
    refine OpsE.nil ?_
    by_cases h0 : page < 0
    ·
      repeat (first | refine RunsE.seq ?_ | refine RunsE.skip ?_ | refine RunsE.block ?_ | refine RunsE.inBlock ?_ | refine RunsE.yes rfl ?_ | refine RunsE.no rfl ?_ | refine RunsE.exit rfl ?_)
      refine RunsE.region ?_
      refine OpsE.ev (Ev.move rfl) rfl ?_
      refine OpsE.ev (Ev.lss (r := true) rfl rfl (decide_eq_true h0)) rfl ?_
      refine OpsE.ev (Ev.move rfl) rfl ?_
      first | (refine OpsE.yes rfl rfl ?_; refine OpsE.ev (Ev.move rfl) rfl ?_) | refine OpsE.no rfl rfl rfl ?_ | refine OpsE.off rfl rfl rfl ?_
      first | (refine OpsE.yes rfl rfl ?_; refine OpsE.ev (Ev.fieldAddr (o := 0) rfl (by kernel_rfl)) rfl ?_) | refine OpsE.no rfl rfl rfl ?_ | refine OpsE.off rfl rfl rfl ?_
      first | (refine OpsE.yes rfl rfl ?_; refine OpsE.ev (Ev.load H rfl (by kernel_rfl) (by first | exact Rd.mk m0 rfl | exact Rd.mk m1 rfl | exact Rd.mk m2 rfl | exact Rd.mk m3 rfl | assumption)) rfl ?_) | refine OpsE.no rfl rfl rfl ?_ | refine OpsE.off rfl rfl rfl ?_
      first | (refine OpsE.yes rfl rfl ?_; refine OpsE.ev (Ev.lenSl (d := 24) rfl rfl (by kernel_rfl)) rfl ?_) | refine OpsE.no rfl rfl rfl ?_ | refine OpsE.off rfl rfl rfl ?_
      first | (refine OpsE.yes rfl rfl ?_; refine OpsE.ev (Ev.geq rfl rfl) rfl ?_) | refine OpsE.no rfl rfl rfl ?_ | refine OpsE.off rfl rfl rfl ?_
      refine OpsE.ev ((by first | exact Ev.pickT rfl rfl | exact Ev.pickF rfl rfl)) rfl ?_
      refine OpsE.nil ?_
      repeat (first | refine RunsE.seq ?_ | refine RunsE.skip ?_ | refine RunsE.block ?_ | refine RunsE.inBlock ?_ | refine RunsE.yes rfl ?_ | refine RunsE.no rfl ?_ | refine RunsE.exit rfl ?_)
      refine RunsE.region ?_
      refine OpsE.ev (Ev.assign rfl) rfl ?_
      refine OpsE.ev (Ev.assign rfl) rfl ?_
      refine OpsE.nil ?_
      repeat (first | refine RunsE.seq ?_ | refine RunsE.skip ?_ | refine RunsE.block ?_ | refine RunsE.inBlock ?_ | refine RunsE.yes rfl ?_ | refine RunsE.no rfl ?_ | refine RunsE.exit rfl ?_)
      exact RunsE.ret2 Tryd.func18 rfl rfl rfl ⟨_, rfl, .nil, H.drop⟩
    ·
      repeat (first | refine RunsE.seq ?_ | refine RunsE.skip ?_ | refine RunsE.block ?_ | refine RunsE.inBlock ?_ | refine RunsE.yes rfl ?_ | refine RunsE.no rfl ?_ | refine RunsE.exit rfl ?_)
      refine RunsE.region ?_
      refine OpsE.ev (Ev.move rfl) rfl ?_
      refine OpsE.ev (Ev.lss (r := false) rfl rfl (decide_eq_false h0)) rfl ?_
      refine OpsE.ev (Ev.move rfl) rfl ?_
      first | (refine OpsE.yes rfl rfl ?_; refine OpsE.ev (Ev.move rfl) rfl ?_) | refine OpsE.no rfl rfl rfl ?_ | refine OpsE.off rfl rfl rfl ?_
      first | (refine OpsE.yes rfl rfl ?_; refine OpsE.ev (Ev.fieldAddr (o := 0) rfl (by kernel_rfl)) rfl ?_) | refine OpsE.no rfl rfl rfl ?_ | refine OpsE.off rfl rfl rfl ?_
      first | (refine OpsE.yes rfl rfl ?_; refine OpsE.ev (Ev.load (v := .slice x.pa s.P.length x.pc) H rfl (by kernel_rfl) (Rd.mk m0 rfl)) rfl ?_) | refine OpsE.no rfl rfl rfl ?_ | refine OpsE.off rfl rfl rfl ?_
      first | (refine OpsE.yes rfl rfl ?_; refine OpsE.ev (Ev.lenSl (d := 24) rfl rfl (by kernel_rfl)) rfl ?_) | refine OpsE.no rfl rfl rfl ?_ | refine OpsE.off rfl rfl rfl ?_
      first | (refine OpsE.yes rfl rfl ?_; refine OpsE.ev (Ev.geq (r := true) rfl rfl (decide_eq_true (by omega))) rfl ?_) | refine OpsE.no rfl rfl rfl ?_ | refine OpsE.off rfl rfl rfl ?_
      refine OpsE.ev ((by first | exact Ev.pickT rfl rfl | exact Ev.pickF rfl rfl)) rfl ?_
      refine OpsE.nil ?_
      repeat (first | refine RunsE.seq ?_ | refine RunsE.skip ?_ | refine RunsE.block ?_ | refine RunsE.inBlock ?_ | refine RunsE.yes rfl ?_ | refine RunsE.no rfl ?_ | refine RunsE.exit rfl ?_)
      refine RunsE.region ?_
      refine OpsE.ev (Ev.assign rfl) rfl ?_
      refine OpsE.ev (Ev.assign rfl) rfl ?_
      refine OpsE.nil ?_
      repeat (first | refine RunsE.seq ?_ | refine RunsE.skip ?_ | refine RunsE.block ?_ | refine RunsE.inBlock ?_ | refine RunsE.yes rfl ?_ | refine RunsE.no rfl ?_ | refine RunsE.exit rfl ?_)
      exact RunsE.ret2 Tryd.func18 rfl rfl rfl ⟨_, rfl, .nil, H.drop⟩
  have h1t : s.has page = true := by simpa using h1
  obtain ⟨p, rfl, hp1⟩ := has_nat h1t
  by_cases h3 : s.down = true
  · rw [read_down h1t h3]
    refine Does.intro (args := [_, _]) (e := [(0, _), (1, _)]) Tryd.func18 rfl Tryd.ntmps18 rfl rfl ?_
    repeat (first | refine RunsE.seq ?_ | refine RunsE.skip ?_ | refine RunsE.block ?_ | refine RunsE.inBlock ?_ | refine RunsE.yes rfl ?_ | refine RunsE.no rfl ?_ | refine RunsE.exit rfl ?_)
    repeat (first | refine RunsE.seq ?_ | refine RunsE.skip ?_ | refine RunsE.block ?_ | refine RunsE.inBlock ?_ | refine RunsE.yes rfl ?_ | refine RunsE.no rfl ?_ | refine RunsE.exit rfl ?_)
    refine RunsE.region ?_
    refine OpsE.ex (Ex.box H rfl) rfl ?_; (try clear H); rintro _ w ⟨b2, rfl, H⟩; simp only [Value.cells] at H
    refine OpsE.ev (Ev.assign rfl) rfl ?_
    refine OpsE.ev (Ev.assign rfl) rfl ?_
    refine OpsE.nil ?_
    repeat (first | refine RunsE.seq ?_ | refine RunsE.skip ?_ | refine RunsE.block ?_ | refine RunsE.inBlock ?_ | refine RunsE.yes rfl ?_ | refine RunsE.no rfl ?_ | refine RunsE.exit rfl ?_)
    refine RunsE.region ?_
    refine OpsE.ev (Ev.move rfl) rfl ?_
    refine OpsE.ev (Ev.lss (r := false) rfl rfl (decide_eq_false (by omega))) rfl ?_
    refine OpsE.ev (Ev.move rfl) rfl ?_
    first | (refine OpsE.yes rfl rfl ?_; refine OpsE.ev (Ev.move rfl) rfl ?_) | refine OpsE.no rfl rfl rfl ?_ | refine OpsE.off rfl rfl rfl ?_
    first | (refine OpsE.yes rfl rfl ?_; refine OpsE.ev (Ev.fieldAddr (o := 0) rfl (by kernel_rfl)) rfl ?_) | refine OpsE.no rfl rfl rfl ?_ | refine OpsE.off rfl rfl rfl ?_
    first | (refine OpsE.yes rfl rfl ?_; refine OpsE.ev (Ev.load (v := .slice x.pa s.P.length x.pc) H rfl (by kernel_rfl) (Rd.mk m0 rfl)) rfl ?_) | refine OpsE.no rfl rfl rfl ?_ | refine OpsE.off rfl rfl rfl ?_
    first | (refine OpsE.yes rfl rfl ?_; refine OpsE.ev (Ev.lenSl (d := 24) rfl rfl (by kernel_rfl)) rfl ?_) | refine OpsE.no rfl rfl rfl ?_ | refine OpsE.off rfl rfl rfl ?_
    first | (refine OpsE.yes rfl rfl ?_; refine OpsE.ev (Ev.geq (r := false) rfl rfl (decide_eq_false (by omega))) rfl ?_) | refine OpsE.no rfl rfl rfl ?_ | refine OpsE.off rfl rfl rfl ?_
    refine OpsE.ev ((by first | exact Ev.pickT rfl rfl | exact Ev.pickF rfl rfl)) rfl ?_
    refine OpsE.nil ?_
    repeat (first | refine RunsE.seq ?_ | refine RunsE.skip ?_ | refine RunsE.block ?_ | refine RunsE.inBlock ?_ | refine RunsE.yes rfl ?_ | refine RunsE.no rfl ?_ | refine RunsE.exit rfl ?_)
    refine RunsE.region ?_
    refine OpsE.ev (Ev.fieldAddr (o := 3) rfl (by kernel_rfl)) rfl ?_
    refine OpsE.ev (Ev.load (v := .bool true) H rfl (by kernel_rfl) (Rd.mk m0 (by rw [← h3]; rfl))) rfl ?_
    refine OpsE.nil ?_
    repeat (first | refine RunsE.seq ?_ | refine RunsE.skip ?_ | refine RunsE.block ?_ | refine RunsE.inBlock ?_ | refine RunsE.yes rfl ?_ | refine RunsE.no rfl ?_ | refine RunsE.exit rfl ?_)
    refine RunsE.region ?_
    refine OpsE.ev (Ev.assign rfl) rfl ?_
    refine OpsE.ev (Ev.assign rfl) rfl ?_
    refine OpsE.nil ?_
    repeat (first | refine RunsE.seq ?_ | refine RunsE.skip ?_ | refine RunsE.block ?_ | refine RunsE.inBlock ?_ | refine RunsE.yes rfl ?_ | refine RunsE.no rfl ?_ | refine RunsE.exit rfl ?_)
    exact RunsE.ret2 Tryd.func18 rfl rfl rfl ⟨_, rfl, .nil, H.drop⟩
  have h3' : s.down = false := by simpa using h3
  rw [read_up h1t h3', Int.toNat_natCast]
  obtain ⟨ok, ⟨us, hus, hub⟩, ql, hqr, hqi⟩ := hR
  have hql := hqi.len
  have hul := hub.len
  obtain ⟨u, hu1⟩ : ∃ u, us[p]? = some u := ⟨us[p]'(by omega), by simp [show p < us.length by omega]⟩
  have hu2 := hub.el p u hu1
  obtain ⟨bp, op, ep, hprd⟩ := hus.at (by omega)
  have hpr := hprd p (.slice u.1 u.2.1 u.2.2) (by
    have := flatMap_one (fun u : SE => Value.slice u.1 u.2.1 u.2.2) us
    rw [show us.flatMap gS = us.map fun u => Value.slice u.1 u.2.1 u.2.2 from this, List.getElem?_map, hu1]
    rfl)
  refine Does.intro (args := [_, _]) (e := [(0, _), (1, _)]) Tryd.func18 rfl Tryd.ntmps18 rfl rfl ?_
  repeat (first | refine RunsE.seq ?_ | refine RunsE.skip ?_ | refine RunsE.block ?_ | refine RunsE.inBlock ?_ | refine RunsE.yes rfl ?_ | refine RunsE.no rfl ?_ | refine RunsE.exit rfl ?_)
  repeat (first | refine RunsE.seq ?_ | refine RunsE.skip ?_ | refine RunsE.block ?_ | refine RunsE.inBlock ?_ | refine RunsE.yes rfl ?_ | refine RunsE.no rfl ?_ | refine RunsE.exit rfl ?_)
  refine RunsE.region ?_
  refine OpsE.ex (Ex.box H rfl) rfl ?_; (try clear H); rintro _ w ⟨b2, rfl, H⟩; simp only [Value.cells] at H
  refine OpsE.ev (Ev.assign rfl) rfl ?_
  refine OpsE.ev (Ev.assign rfl) rfl ?_
  refine OpsE.nil ?_
  repeat (first | refine RunsE.seq ?_ | refine RunsE.skip ?_ | refine RunsE.block ?_ | refine RunsE.inBlock ?_ | refine RunsE.yes rfl ?_ | refine RunsE.no rfl ?_ | refine RunsE.exit rfl ?_)
  refine RunsE.region ?_
  refine OpsE.ev (Ev.move rfl) rfl ?_
  refine OpsE.ev (Ev.lss (r := false) rfl rfl (decide_eq_false (by omega))) rfl ?_
  refine OpsE.ev (Ev.move rfl) rfl ?_
  first | (refine OpsE.yes rfl rfl ?_; refine OpsE.ev (Ev.move rfl) rfl ?_) | refine OpsE.no rfl rfl rfl ?_ | refine OpsE.off rfl rfl rfl ?_
  first | (refine OpsE.yes rfl rfl ?_; refine OpsE.ev (Ev.fieldAddr (o := 0) rfl (by kernel_rfl)) rfl ?_) | refine OpsE.no rfl rfl rfl ?_ | refine OpsE.off rfl rfl rfl ?_
  first | (refine OpsE.yes rfl rfl ?_; refine OpsE.ev (Ev.load (v := .slice x.pa s.P.length x.pc) H rfl (by kernel_rfl) (Rd.mk m0 rfl)) rfl ?_) | refine OpsE.no rfl rfl rfl ?_ | refine OpsE.off rfl rfl rfl ?_
  first | (refine OpsE.yes rfl rfl ?_; refine OpsE.ev (Ev.lenSl (d := 24) rfl rfl (by kernel_rfl)) rfl ?_) | refine OpsE.no rfl rfl rfl ?_ | refine OpsE.off rfl rfl rfl ?_
  first | (refine OpsE.yes rfl rfl ?_; refine OpsE.ev (Ev.geq (r := false) rfl rfl (decide_eq_false (by omega))) rfl ?_) | refine OpsE.no rfl rfl rfl ?_ | refine OpsE.off rfl rfl rfl ?_
  refine OpsE.ev ((by first | exact Ev.pickT rfl rfl | exact Ev.pickF rfl rfl)) rfl ?_
  refine OpsE.nil ?_
  repeat (first | refine RunsE.seq ?_ | refine RunsE.skip ?_ | refine RunsE.block ?_ | refine RunsE.inBlock ?_ | refine RunsE.yes rfl ?_ | refine RunsE.no rfl ?_ | refine RunsE.exit rfl ?_)
  refine RunsE.region ?_
  refine OpsE.ev (Ev.fieldAddr (o := 3) rfl (by kernel_rfl)) rfl ?_
  refine OpsE.ev (Ev.load (v := .bool false) H rfl (by kernel_rfl) (Rd.mk m0 (by rw [← h3']; rfl))) rfl ?_
  refine OpsE.nil ?_
  repeat (first | refine RunsE.seq ?_ | refine RunsE.skip ?_ | refine RunsE.block ?_ | refine RunsE.inBlock ?_ | refine RunsE.yes rfl ?_ | refine RunsE.no rfl ?_ | refine RunsE.exit rfl ?_)
  refine RunsE.region ?_
  refine OpsE.ev (Ev.fieldAddr (o := 0) rfl (by kernel_rfl)) rfl ?_
  refine OpsE.ev (Ev.load (v := .slice (some ⟨bp, op, none⟩) s.P.length x.pc) H rfl (by kernel_rfl) (Rd.mk m0 (by rw [← ep]; rfl))) rfl ?_
  refine OpsE.ev (Ev.move rfl) rfl ?_
  refine OpsE.ev (Ev.iaSl (n := 24) (sz := 1) (m := p) (o := op + p) rfl rfl rfl (by kernel_rfl) (by omega) (by omega)) rfl ?_
  refine OpsE.ev (Ev.load H rfl (by kernel_rfl) (hpr.sub hG).tail) rfl ?_
  refine OpsE.ev (Ev.assign rfl) rfl ?_
  refine OpsE.nil ?_
  repeat (first | refine RunsE.seq ?_ | refine RunsE.skip ?_ | refine RunsE.block ?_ | refine RunsE.inBlock ?_ | refine RunsE.yes rfl ?_ | refine RunsE.no rfl ?_ | refine RunsE.exit rfl ?_)
  refine RunsE.region ?_
  refine OpsE.ev (Ev.assign rfl) rfl ?_
  refine OpsE.nil ?_
  repeat refine RunsE.seq ?_
  refine RunsE.join (fun v : Value => [(6, v)]) (fun v w => Inp G v (s.page p) ∧ SL w ((b2, .cells (refV s x).toArray 41 (0, 0)) :: X)) (fun next => ?_) ?_
  · refine RunsE.block ?_
    refine RunsE.loop (fun i : Nat × Value => [(1, .int .i64 (p : Int)), (2, .pointer (some ⟨b2, 0, none⟩)), (6, i.2), (7, .int .i64 (i.1 : Int))])
      (fun i w => i.1 ≤ s.Q.length ∧ Inp G i.2 ((lastW s.Q p i.1).getD (s.P.getD p [])) ∧ SL w ((b2, .cells (refV s x).toArray 41 (0, 0)) :: X)) (fun i => s.Q.length - i.1) (0, .slice u.1 u.2.1 u.2.2) ⟨rfl, rfl, rfl, rfl, trivial⟩ ⟨by simp only; omega, hu2, H⟩ ?_
    clear H
    rintro ⟨i, v⟩ w ⟨hi, hv, H⟩ nextL
    simp only at hi hv
    by_cases h2 : i = s.Q.length
    ·
      repeat (first | refine RunsE.seq ?_ | refine RunsE.skip ?_ | refine RunsE.block ?_ | refine RunsE.inBlock ?_ | refine RunsE.yes rfl ?_ | refine RunsE.no rfl ?_ | refine RunsE.exit rfl ?_)
      refine RunsE.region ?_
      refine OpsE.ev (Ev.move rfl) rfl ?_
      refine OpsE.ev (Ev.fieldAddr (o := 1) rfl (by kernel_rfl)) rfl ?_
      refine OpsE.ev (Ev.load (v := .slice x.la s.Q.length x.lc) H rfl (by kernel_rfl) (Rd.mk m0 rfl)) rfl ?_
      refine OpsE.ev (Ev.lenSl (d := 74) rfl rfl (by kernel_rfl)) rfl ?_
      refine OpsE.ev (Ev.lss (r := false) rfl rfl (decide_eq_false (by simp only; omega))) rfl ?_
      refine OpsE.nil ?_
      repeat refine RunsE.seq ?_
      refine RunsE.no rfl ?_
      refine RunsE.exit rfl ?_
      rw [h2] at hv
      exact next v _ _ ⟨hv, H⟩ ⟨rfl, trivial⟩
    clear next
    obtain ⟨q, hq1⟩ : ∃ q, ql[i]? = some q := ⟨ql[i]'(by omega), by simp [show i < ql.length by omega]⟩
    obtain ⟨hq2, hq3⟩ := hqi.el i q hq1
    obtain ⟨bq, oq, eq, hqrd⟩ := hqr.at (by omega)
    have hr0 := hqrd (i * 2 + 0) _ (by have := queue_at (sp := []) hq1 0 _ rfl; rw [List.append_nil] at this; exact this)
    have hr1 := hqrd (i * 2 + 1) _ (by have := queue_at (sp := []) hq1 1 _ rfl; rw [List.append_nil] at this; exact this)
    repeat (first | refine RunsE.seq ?_ | refine RunsE.skip ?_ | refine RunsE.block ?_ | refine RunsE.inBlock ?_ | refine RunsE.yes rfl ?_ | refine RunsE.no rfl ?_ | refine RunsE.exit rfl ?_)
    refine RunsE.region ?_
    refine OpsE.ev (Ev.move rfl) rfl ?_
    refine OpsE.ev (Ev.fieldAddr (o := 1) rfl (by kernel_rfl)) rfl ?_
    refine OpsE.ev (Ev.load (v := .slice x.la s.Q.length x.lc) H rfl (by kernel_rfl) (Rd.mk m0 rfl)) rfl ?_
    refine OpsE.ev (Ev.lenSl (d := 74) rfl rfl (by kernel_rfl)) rfl ?_
    refine OpsE.ev (Ev.lss (r := true) rfl rfl (decide_eq_true (by simp only; omega))) rfl ?_
    refine OpsE.nil ?_
    repeat (first | refine RunsE.seq ?_ | refine RunsE.skip ?_ | refine RunsE.block ?_ | refine RunsE.inBlock ?_ | refine RunsE.yes rfl ?_ | refine RunsE.no rfl ?_ | refine RunsE.exit rfl ?_)
    by_cases h4 : q.1 = p
    ·
      repeat (first | refine RunsE.seq ?_ | refine RunsE.skip ?_ | refine RunsE.block ?_ | refine RunsE.inBlock ?_ | refine RunsE.yes rfl ?_ | refine RunsE.no rfl ?_ | refine RunsE.exit rfl ?_)
      refine RunsE.region ?_
      refine OpsE.ev (Ev.fieldAddr (o := 1) rfl (by kernel_rfl)) rfl ?_
      refine OpsE.ev (Ev.load (v := .slice (some ⟨bq, oq, none⟩) s.Q.length x.lc) H rfl (by kernel_rfl) (Rd.mk m0 (by rw [← eq]; rfl))) rfl ?_
      refine OpsE.ev (Ev.move rfl) rfl ?_
      refine OpsE.ev (Ev.iaSl (n := 74) (sz := 2) (m := i) (o := oq + (i * 2 + 0)) rfl rfl rfl (by kernel_rfl) (by omega) (by omega)) rfl ?_
      refine OpsE.ev (Ev.fieldAddr (o := 0) rfl (by kernel_rfl)) rfl ?_
      refine OpsE.ev (Ev.load H rfl (by kernel_rfl) (hr0.sub hG).tail) rfl ?_
      refine OpsE.ev (Ev.move rfl) rfl ?_
      refine OpsE.ev (Ev.eql (r := true) rfl rfl (beq_iff_eq.2 (by omega))) rfl ?_
      refine OpsE.nil ?_
      repeat (first | refine RunsE.seq ?_ | refine RunsE.skip ?_ | refine RunsE.block ?_ | refine RunsE.inBlock ?_ | refine RunsE.yes rfl ?_ | refine RunsE.no rfl ?_ | refine RunsE.exit rfl ?_)
      refine RunsE.region ?_
      refine OpsE.ev (Ev.fieldAddr (o := 1) rfl (by kernel_rfl)) rfl ?_
      refine OpsE.ev (Ev.load (v := .slice (some ⟨bq, oq, none⟩) s.Q.length x.lc) H rfl (by kernel_rfl) (Rd.mk m0 (by rw [← eq]; rfl))) rfl ?_
      refine OpsE.ev (Ev.move rfl) rfl ?_
      refine OpsE.ev (Ev.iaSl (n := 74) (sz := 2) (m := i) (o := oq + (i * 2 + 0)) rfl rfl rfl (by kernel_rfl) (by omega) (by omega)) rfl ?_
      refine OpsE.ev (Ev.fieldAddr (o := 1) rfl (by kernel_rfl)) rfl ?_
      refine OpsE.ev (Ev.load H rfl (by kernel_rfl) (hr1.sub hG).tail) rfl ?_
      refine OpsE.ev (Ev.assign rfl) rfl ?_
      refine OpsE.nil ?_
      repeat (first | refine RunsE.seq ?_ | refine RunsE.skip ?_ | refine RunsE.block ?_ | refine RunsE.inBlock ?_ | refine RunsE.yes rfl ?_ | refine RunsE.no rfl ?_ | refine RunsE.exit rfl ?_)
      refine RunsE.region ?_
      refine OpsE.ev (Ev.move rfl) rfl ?_
      refine OpsE.ev (Ev.add rfl rfl) rfl ?_
      refine OpsE.ev (Ev.assign rfl) rfl ?_
      refine OpsE.nil ?_
      refine nextL (i + 1, .slice q.2.1 q.2.2.1 q.2.2.2) _ _ (by simp only; omega) ⟨by simp only; omega, ?_, H⟩ ⟨rfl, rfl, rfl, rfl, trivial⟩
      simp only [lastW]
      rw [if_pos (by rw [← hq2]; exact h4)]
      exact hq3
    ·
      repeat (first | refine RunsE.seq ?_ | refine RunsE.skip ?_ | refine RunsE.block ?_ | refine RunsE.inBlock ?_ | refine RunsE.yes rfl ?_ | refine RunsE.no rfl ?_ | refine RunsE.exit rfl ?_)
      refine RunsE.region ?_
      refine OpsE.ev (Ev.fieldAddr (o := 1) rfl (by kernel_rfl)) rfl ?_
      refine OpsE.ev (Ev.load (v := .slice (some ⟨bq, oq, none⟩) s.Q.length x.lc) H rfl (by kernel_rfl) (Rd.mk m0 (by rw [← eq]; rfl))) rfl ?_
      refine OpsE.ev (Ev.move rfl) rfl ?_
      refine OpsE.ev (Ev.iaSl (n := 74) (sz := 2) (m := i) (o := oq + (i * 2 + 0)) rfl rfl rfl (by kernel_rfl) (by omega) (by omega)) rfl ?_
      refine OpsE.ev (Ev.fieldAddr (o := 0) rfl (by kernel_rfl)) rfl ?_
      refine OpsE.ev (Ev.load H rfl (by kernel_rfl) (hr0.sub hG).tail) rfl ?_
      refine OpsE.ev (Ev.move rfl) rfl ?_
      refine OpsE.ev (Ev.eql (r := false) rfl rfl (beq_eq_false_iff_ne.2 (by omega))) rfl ?_
      refine OpsE.nil ?_
      repeat (first | refine RunsE.seq ?_ | refine RunsE.skip ?_ | refine RunsE.block ?_ | refine RunsE.inBlock ?_ | refine RunsE.yes rfl ?_ | refine RunsE.no rfl ?_ | refine RunsE.exit rfl ?_)
      refine RunsE.region ?_
      refine OpsE.ev (Ev.move rfl) rfl ?_
      refine OpsE.ev (Ev.add rfl rfl) rfl ?_
      refine OpsE.ev (Ev.assign rfl) rfl ?_
      refine OpsE.nil ?_
      refine nextL (i + 1, v) _ _ (by simp only; omega) ⟨by simp only; omega, ?_, H⟩ ⟨rfl, rfl, rfl, rfl, trivial⟩
      simp only [lastW]
      rw [if_neg (by rw [← hq2]; exact h4)]
      exact hv
  clear H
  rintro v w ⟨hv, H⟩
  repeat (first | refine RunsE.seq ?_ | refine RunsE.skip ?_ | refine RunsE.block ?_ | refine RunsE.inBlock ?_ | refine RunsE.yes rfl ?_ | refine RunsE.no rfl ?_ | refine RunsE.exit rfl ?_)
  refine RunsE.region ?_
  refine OpsE.ev (Ev.move rfl) rfl ?_
  refine OpsE.ev (Ev.assign rfl) rfl ?_
  refine OpsE.ev (Ev.assign rfl) rfl ?_
  refine OpsE.nil ?_
  repeat (first | refine RunsE.seq ?_ | refine RunsE.skip ?_ | refine RunsE.block ?_ | refine RunsE.inBlock ?_ | refine RunsE.yes rfl ?_ | refine RunsE.no rfl ?_ | refine RunsE.exit rfl ?_)
  exact RunsE.ret2 Tryd.func18 rfl rfl rfl ⟨v, rfl, hv, H.drop⟩

end Go.Proofs.YtoiehgiokfnmkaaDoor
