/-
  The document's store of pages: Put, Arm, done.
-/
import Derived.Test.YtoiehgiokfnmkaaDoorPagesRef
namespace Go.Proofs.YtoiehgiokfnmkaaDoor.V

theorem RdS.cut {G : List (Nat × Obj)} {sz n c : Nat} {a : Option Addr} {cs : List Value} (h : RdS G sz (.slice a n c) n cs) : RdS G sz (.slice a n n) n cs := by
  generalize hv : Value.slice a n c = v at h
  cases h with
  | nil => cases hv; exact .nil
  | blk b off n c cs hl hc hr => cases hv; exact .blk b off n n cs hl (Nat.le_refl _) hr

theorem RefIn.congr {G : List (Nat × Obj)} {s s' : St} {x : RX} (h : RefIn G s x) (hP : s'.P = s.P) (hQ : s'.Q = s.Q) (ok : s'.Ok) : RefIn G s' x :=
  ⟨ok, by rw [hP]; exact h.p, by rw [hQ]; exact h.q⟩

theorem step_P (s : St) : s.step.1.P = s.P := by
  unfold St.step
  split
  · rfl
  split <;> rfl

end Go.Proofs.YtoiehgiokfnmkaaDoor.V
namespace Go.Proofs.YtoiehgiokfnmkaaDoor
open Go.Proofs.YtoiehgiokfnmkaaDoor.V

set_option maxHeartbeats 1000000 in
theorem rput_spec [Strm] (s : St) (page : Int) (bs : List UInt8) (v : Value) (x : RX) (hQl : s.Q.length ≤ 1000000) (hl : bs.length ≤ 9223372036854775807) (w : World) (X G : List (Nat × Obj)) (hG : ∀ p ∈ G, p ∈ X) (hR : RefIn G s x) (hv : Inp G v bs) (H : SL w X) :
    Does Tryd.prog 22 #[RVal s x, .int .i64 page, v] w fun r w' => ∃ B x', r = .tuple #[RVal (s.write page bs).1 x', .int .i64 ((s.write page bs).2 : Int)] ∧ RefIn (B ++ G) (s.write page bs).1 x' ∧ SL w' (B ++ X) := by
  obtain ⟨av, cv, rfl, hcv⟩ := hv.len
  by_cases h1 : s.has page = false
  · rw [write_has h1]
    have h1' : ¬ (0 ≤ page ∧ page < s.P.length) := by
      intro h
      simp only [St.has, Bool.and_eq_false_iff, decide_eq_false_iff_not] at h1
      omega
    refine Does.intro (args := [_, _, _]) (e := [(0, _), (1, _), (2, _)]) Tryd.func22 rfl Tryd.ntmps22 rfl rfl ?_
    repeat (first | refine RunsE.seq ?_ | refine RunsE.skip ?_ | refine RunsE.block ?_ | refine RunsE.inBlock ?_ | refine RunsE.yes rfl ?_ | refine RunsE.no rfl ?_ | refine RunsE.exit rfl ?_)
    repeat (first | refine RunsE.seq ?_ | refine RunsE.skip ?_ | refine RunsE.block ?_ | refine RunsE.inBlock ?_ | refine RunsE.yes rfl ?_ | refine RunsE.no rfl ?_ | refine RunsE.exit rfl ?_)
    refine RunsE.region ?_
    refine OpsE.ex (Ex.box H rfl) rfl ?_; (try clear H); rintro _ w ⟨b3, rfl, H⟩; simp only [Value.cells] at H
    refine OpsE.ex (Ex.alloc (zv := .agg #[.slice none 0 0, .slice none 0 0, .int .i64 0, .bool false]) H (by kernel_rfl)) rfl ?_; (try clear H); rintro _ w ⟨b6, rfl, H⟩; simp only [Value.cells] at H
    refine OpsE.ev (Ev.assign rfl) rfl ?_
    refine OpsE.nil ?_
    by_cases h0 : page < 0
    ·
      repeat (first | refine RunsE.seq ?_ | refine RunsE.skip ?_ | refine RunsE.block ?_ | refine RunsE.inBlock ?_ | refine RunsE.yes rfl ?_ | refine RunsE.no rfl ?_ | refine RunsE.exit rfl ?_)
      refine RunsE.region ?_
      refine OpsE.ev (Ev.move rfl) rfl ?_
      refine OpsE.ev (Ev.lss (r := true) rfl rfl (decide_eq_true h0)) rfl ?_
      refine OpsE.ev (Ev.move rfl) rfl ?_
      first | (refine OpsE.yes rfl rfl ?_; refine OpsE.ev (Ev.move rfl) rfl ?_) | refine OpsE.no rfl rfl rfl ?_ | refine OpsE.off rfl rfl rfl ?_
      first | (refine OpsE.yes rfl rfl ?_; refine OpsE.ev (Ev.fieldAddr (o := 0) rfl (by kernel_rfl)) rfl ?_) | refine OpsE.no rfl rfl rfl ?_ | refine OpsE.off rfl rfl rfl ?_
      first | (refine OpsE.yes rfl rfl ?_; refine OpsE.ev (Ev.load H rfl (by kernel_rfl) (by first | exact Rd.mk m0 rfl | exact Rd.mk m1 rfl | exact Rd.mk m2 rfl | exact Rd.mk m3 rfl | assumption)) rfl ?_) | refine OpsE.no rfl rfl rfl ?_ | refine OpsE.off rfl rfl rfl ?_
      first | (refine OpsE.yes rfl rfl ?_; refine OpsE.ev (Ev.lenSl (d := 24) rfl rfl (by kernel_rfl)) rfl ?_) | refine OpsE.no rfl rfl rfl ?_ | refine OpsE.off rfl rfl rfl ?_
      first | (refine OpsE.yes rfl rfl ?_; refine OpsE.ev (Ev.geq rfl rfl) rfl ?_) | refine OpsE.no rfl rfl rfl ?_ | refine OpsE.off rfl rfl rfl ?_
      refine OpsE.ev ((by first | exact Ev.pickT rfl rfl | exact Ev.pickF rfl rfl)) rfl ?_
      refine OpsE.nil ?_
      repeat (first | refine RunsE.seq ?_ | refine RunsE.skip ?_ | refine RunsE.block ?_ | refine RunsE.inBlock ?_ | refine RunsE.yes rfl ?_ | refine RunsE.no rfl ?_ | refine RunsE.exit rfl ?_)
      refine RunsE.region ?_
      refine OpsE.ev (Ev.loadBlk (n := 4) (vs := refV s x) H rfl (by kernel_rfl) rfl m1) rfl ?_
      refine OpsE.exn (Ex.storeBlk (n := 4) (vs := refV s x) H rfl rfl (by kernel_rfl) rfl (refV_one s x) u0 rfl (Thaw.zero _ _)) ?_; (try clear H); intro _ w H
      refine OpsE.ev (Ev.assign rfl) rfl ?_
      refine OpsE.nil ?_
      repeat (first | refine RunsE.seq ?_ | refine RunsE.skip ?_ | refine RunsE.block ?_ | refine RunsE.inBlock ?_ | refine RunsE.yes rfl ?_ | refine RunsE.no rfl ?_ | refine RunsE.exit rfl ?_)
      exact RunsE.retAggTmp (m := 4) H Tryd.func22 rfl rfl rfl (by kernel_rfl) rfl m0 ⟨[], x, rfl, hR, H.drop.drop⟩
    ·
      repeat (first | refine RunsE.seq ?_ | refine RunsE.skip ?_ | refine RunsE.block ?_ | refine RunsE.inBlock ?_ | refine RunsE.yes rfl ?_ | refine RunsE.no rfl ?_ | refine RunsE.exit rfl ?_)
      refine RunsE.region ?_
      refine OpsE.ev (Ev.move rfl) rfl ?_
      refine OpsE.ev (Ev.lss (r := false) rfl rfl (decide_eq_false h0)) rfl ?_
      refine OpsE.ev (Ev.move rfl) rfl ?_
      first | (refine OpsE.yes rfl rfl ?_; refine OpsE.ev (Ev.move rfl) rfl ?_) | refine OpsE.no rfl rfl rfl ?_ | refine OpsE.off rfl rfl rfl ?_
      first | (refine OpsE.yes rfl rfl ?_; refine OpsE.ev (Ev.fieldAddr (o := 0) rfl (by kernel_rfl)) rfl ?_) | refine OpsE.no rfl rfl rfl ?_ | refine OpsE.off rfl rfl rfl ?_
      first | (refine OpsE.yes rfl rfl ?_; refine OpsE.ev (Ev.load (v := .slice x.pa s.P.length x.pc) H rfl (by kernel_rfl) (Rd.mk m1 rfl)) rfl ?_) | refine OpsE.no rfl rfl rfl ?_ | refine OpsE.off rfl rfl rfl ?_
      first | (refine OpsE.yes rfl rfl ?_; refine OpsE.ev (Ev.lenSl (d := 24) rfl rfl (by kernel_rfl)) rfl ?_) | refine OpsE.no rfl rfl rfl ?_ | refine OpsE.off rfl rfl rfl ?_
      first | (refine OpsE.yes rfl rfl ?_; refine OpsE.ev (Ev.geq (r := true) rfl rfl (decide_eq_true (by omega))) rfl ?_) | refine OpsE.no rfl rfl rfl ?_ | refine OpsE.off rfl rfl rfl ?_
      refine OpsE.ev ((by first | exact Ev.pickT rfl rfl | exact Ev.pickF rfl rfl)) rfl ?_
      refine OpsE.nil ?_
      repeat (first | refine RunsE.seq ?_ | refine RunsE.skip ?_ | refine RunsE.block ?_ | refine RunsE.inBlock ?_ | refine RunsE.yes rfl ?_ | refine RunsE.no rfl ?_ | refine RunsE.exit rfl ?_)
      refine RunsE.region ?_
      refine OpsE.ev (Ev.loadBlk (n := 4) (vs := refV s x) H rfl (by kernel_rfl) rfl m1) rfl ?_
      refine OpsE.exn (Ex.storeBlk (n := 4) (vs := refV s x) H rfl rfl (by kernel_rfl) rfl (refV_one s x) u0 rfl (Thaw.zero _ _)) ?_; (try clear H); intro _ w H
      refine OpsE.ev (Ev.assign rfl) rfl ?_
      refine OpsE.nil ?_
      repeat (first | refine RunsE.seq ?_ | refine RunsE.skip ?_ | refine RunsE.block ?_ | refine RunsE.inBlock ?_ | refine RunsE.yes rfl ?_ | refine RunsE.no rfl ?_ | refine RunsE.exit rfl ?_)
      exact RunsE.retAggTmp (m := 4) H Tryd.func22 rfl rfl rfl (by kernel_rfl) rfl m0 ⟨[], x, rfl, hR, H.drop.drop⟩
  have h1t : s.has page = true := by simpa using h1
  obtain ⟨p, rfl, hp1⟩ := has_nat h1t
  by_cases h2 : 4096 < bs.length
  · rw [write_long h1t h2]
    refine Does.intro (args := [_, _, _]) (e := [(0, _), (1, _), (2, _)]) Tryd.func22 rfl Tryd.ntmps22 rfl rfl ?_
    repeat (first | refine RunsE.seq ?_ | refine RunsE.skip ?_ | refine RunsE.block ?_ | refine RunsE.inBlock ?_ | refine RunsE.yes rfl ?_ | refine RunsE.no rfl ?_ | refine RunsE.exit rfl ?_)
    repeat (first | refine RunsE.seq ?_ | refine RunsE.skip ?_ | refine RunsE.block ?_ | refine RunsE.inBlock ?_ | refine RunsE.yes rfl ?_ | refine RunsE.no rfl ?_ | refine RunsE.exit rfl ?_)
    refine RunsE.region ?_
    refine OpsE.ex (Ex.box H rfl) rfl ?_; (try clear H); rintro _ w ⟨b3, rfl, H⟩; simp only [Value.cells] at H
    refine OpsE.ex (Ex.alloc (zv := .agg #[.slice none 0 0, .slice none 0 0, .int .i64 0, .bool false]) H (by kernel_rfl)) rfl ?_; (try clear H); rintro _ w ⟨b6, rfl, H⟩; simp only [Value.cells] at H
    refine OpsE.ev (Ev.assign rfl) rfl ?_
    refine OpsE.nil ?_
    repeat (first | refine RunsE.seq ?_ | refine RunsE.skip ?_ | refine RunsE.block ?_ | refine RunsE.inBlock ?_ | refine RunsE.yes rfl ?_ | refine RunsE.no rfl ?_ | refine RunsE.exit rfl ?_)
    refine RunsE.region ?_
    refine OpsE.ev (Ev.move rfl) rfl ?_
    refine OpsE.ev (Ev.lss (r := false) rfl rfl (decide_eq_false (by omega))) rfl ?_
    refine OpsE.ev (Ev.move rfl) rfl ?_
    first | (refine OpsE.yes rfl rfl ?_; refine OpsE.ev (Ev.move rfl) rfl ?_) | refine OpsE.no rfl rfl rfl ?_ | refine OpsE.off rfl rfl rfl ?_
    first | (refine OpsE.yes rfl rfl ?_; refine OpsE.ev (Ev.fieldAddr (o := 0) rfl (by kernel_rfl)) rfl ?_) | refine OpsE.no rfl rfl rfl ?_ | refine OpsE.off rfl rfl rfl ?_
    first | (refine OpsE.yes rfl rfl ?_; refine OpsE.ev (Ev.load (v := .slice x.pa s.P.length x.pc) H rfl (by kernel_rfl) (Rd.mk m1 rfl)) rfl ?_) | refine OpsE.no rfl rfl rfl ?_ | refine OpsE.off rfl rfl rfl ?_
    first | (refine OpsE.yes rfl rfl ?_; refine OpsE.ev (Ev.lenSl (d := 24) rfl rfl (by kernel_rfl)) rfl ?_) | refine OpsE.no rfl rfl rfl ?_ | refine OpsE.off rfl rfl rfl ?_
    first | (refine OpsE.yes rfl rfl ?_; refine OpsE.ev (Ev.geq (r := false) rfl rfl (decide_eq_false (by omega))) rfl ?_) | refine OpsE.no rfl rfl rfl ?_ | refine OpsE.off rfl rfl rfl ?_
    refine OpsE.ev ((by first | exact Ev.pickT rfl rfl | exact Ev.pickF rfl rfl)) rfl ?_
    refine OpsE.nil ?_
    repeat (first | refine RunsE.seq ?_ | refine RunsE.skip ?_ | refine RunsE.block ?_ | refine RunsE.inBlock ?_ | refine RunsE.yes rfl ?_ | refine RunsE.no rfl ?_ | refine RunsE.exit rfl ?_)
    refine RunsE.region ?_
    refine OpsE.ev (Ev.move rfl) rfl ?_
    refine OpsE.ev (Ev.lenSl (d := 5) rfl rfl (by kernel_rfl)) rfl ?_
    refine OpsE.ev (Ev.gtr (r := true) rfl rfl (decide_eq_true (by omega))) rfl ?_
    refine OpsE.nil ?_
    repeat (first | refine RunsE.seq ?_ | refine RunsE.skip ?_ | refine RunsE.block ?_ | refine RunsE.inBlock ?_ | refine RunsE.yes rfl ?_ | refine RunsE.no rfl ?_ | refine RunsE.exit rfl ?_)
    refine RunsE.region ?_
    refine OpsE.ev (Ev.loadBlk (n := 4) (vs := refV s x) H rfl (by kernel_rfl) rfl m1) rfl ?_
    refine OpsE.exn (Ex.storeBlk (n := 4) (vs := refV s x) H rfl rfl (by kernel_rfl) rfl (refV_one s x) u0 rfl (Thaw.zero _ _)) ?_; (try clear H); intro _ w H
    refine OpsE.ev (Ev.assign rfl) rfl ?_
    refine OpsE.nil ?_
    repeat (first | refine RunsE.seq ?_ | refine RunsE.skip ?_ | refine RunsE.block ?_ | refine RunsE.inBlock ?_ | refine RunsE.yes rfl ?_ | refine RunsE.no rfl ?_ | refine RunsE.exit rfl ?_)
    exact RunsE.retAggTmp (m := 4) H Tryd.func22 rfl rfl rfl (by kernel_rfl) rfl m0 ⟨[], x, rfl, hR, H.drop.drop⟩
  by_cases h3 : s.down = true
  · rw [write_down h1t h2 h3]
    refine Does.intro (args := [_, _, _]) (e := [(0, _), (1, _), (2, _)]) Tryd.func22 rfl Tryd.ntmps22 rfl rfl ?_
    repeat (first | refine RunsE.seq ?_ | refine RunsE.skip ?_ | refine RunsE.block ?_ | refine RunsE.inBlock ?_ | refine RunsE.yes rfl ?_ | refine RunsE.no rfl ?_ | refine RunsE.exit rfl ?_)
    repeat (first | refine RunsE.seq ?_ | refine RunsE.skip ?_ | refine RunsE.block ?_ | refine RunsE.inBlock ?_ | refine RunsE.yes rfl ?_ | refine RunsE.no rfl ?_ | refine RunsE.exit rfl ?_)
    refine RunsE.region ?_
    refine OpsE.ex (Ex.box H rfl) rfl ?_; (try clear H); rintro _ w ⟨b3, rfl, H⟩; simp only [Value.cells] at H
    refine OpsE.ex (Ex.alloc (zv := .agg #[.slice none 0 0, .slice none 0 0, .int .i64 0, .bool false]) H (by kernel_rfl)) rfl ?_; (try clear H); rintro _ w ⟨b6, rfl, H⟩; simp only [Value.cells] at H
    refine OpsE.ev (Ev.assign rfl) rfl ?_
    refine OpsE.nil ?_
    repeat (first | refine RunsE.seq ?_ | refine RunsE.skip ?_ | refine RunsE.block ?_ | refine RunsE.inBlock ?_ | refine RunsE.yes rfl ?_ | refine RunsE.no rfl ?_ | refine RunsE.exit rfl ?_)
    refine RunsE.region ?_
    refine OpsE.ev (Ev.move rfl) rfl ?_
    refine OpsE.ev (Ev.lss (r := false) rfl rfl (decide_eq_false (by omega))) rfl ?_
    refine OpsE.ev (Ev.move rfl) rfl ?_
    first | (refine OpsE.yes rfl rfl ?_; refine OpsE.ev (Ev.move rfl) rfl ?_) | refine OpsE.no rfl rfl rfl ?_ | refine OpsE.off rfl rfl rfl ?_
    first | (refine OpsE.yes rfl rfl ?_; refine OpsE.ev (Ev.fieldAddr (o := 0) rfl (by kernel_rfl)) rfl ?_) | refine OpsE.no rfl rfl rfl ?_ | refine OpsE.off rfl rfl rfl ?_
    first | (refine OpsE.yes rfl rfl ?_; refine OpsE.ev (Ev.load (v := .slice x.pa s.P.length x.pc) H rfl (by kernel_rfl) (Rd.mk m1 rfl)) rfl ?_) | refine OpsE.no rfl rfl rfl ?_ | refine OpsE.off rfl rfl rfl ?_
    first | (refine OpsE.yes rfl rfl ?_; refine OpsE.ev (Ev.lenSl (d := 24) rfl rfl (by kernel_rfl)) rfl ?_) | refine OpsE.no rfl rfl rfl ?_ | refine OpsE.off rfl rfl rfl ?_
    first | (refine OpsE.yes rfl rfl ?_; refine OpsE.ev (Ev.geq (r := false) rfl rfl (decide_eq_false (by omega))) rfl ?_) | refine OpsE.no rfl rfl rfl ?_ | refine OpsE.off rfl rfl rfl ?_
    refine OpsE.ev ((by first | exact Ev.pickT rfl rfl | exact Ev.pickF rfl rfl)) rfl ?_
    refine OpsE.nil ?_
    repeat (first | refine RunsE.seq ?_ | refine RunsE.skip ?_ | refine RunsE.block ?_ | refine RunsE.inBlock ?_ | refine RunsE.yes rfl ?_ | refine RunsE.no rfl ?_ | refine RunsE.exit rfl ?_)
    refine RunsE.region ?_
    refine OpsE.ev (Ev.move rfl) rfl ?_
    refine OpsE.ev (Ev.lenSl (d := 5) rfl rfl (by kernel_rfl)) rfl ?_
    refine OpsE.ev (Ev.gtr (r := false) rfl rfl (decide_eq_false (by omega))) rfl ?_
    refine OpsE.nil ?_
    repeat (first | refine RunsE.seq ?_ | refine RunsE.skip ?_ | refine RunsE.block ?_ | refine RunsE.inBlock ?_ | refine RunsE.yes rfl ?_ | refine RunsE.no rfl ?_ | refine RunsE.exit rfl ?_)
    refine RunsE.region ?_
    refine OpsE.ev (Ev.fieldAddr (o := 3) rfl (by kernel_rfl)) rfl ?_
    refine OpsE.ev (Ev.load (v := .bool true) H rfl (by kernel_rfl) (Rd.mk m1 (by rw [← h3]; rfl))) rfl ?_
    refine OpsE.nil ?_
    repeat (first | refine RunsE.seq ?_ | refine RunsE.skip ?_ | refine RunsE.block ?_ | refine RunsE.inBlock ?_ | refine RunsE.yes rfl ?_ | refine RunsE.no rfl ?_ | refine RunsE.exit rfl ?_)
    refine RunsE.region ?_
    refine OpsE.ev (Ev.loadBlk (n := 4) (vs := refV s x) H rfl (by kernel_rfl) rfl m1) rfl ?_
    refine OpsE.exn (Ex.storeBlk (n := 4) (vs := refV s x) H rfl rfl (by kernel_rfl) rfl (refV_one s x) u0 rfl (Thaw.zero _ _)) ?_; (try clear H); intro _ w H
    refine OpsE.ev (Ev.assign rfl) rfl ?_
    refine OpsE.nil ?_
    repeat (first | refine RunsE.seq ?_ | refine RunsE.skip ?_ | refine RunsE.block ?_ | refine RunsE.inBlock ?_ | refine RunsE.yes rfl ?_ | refine RunsE.no rfl ?_ | refine RunsE.exit rfl ?_)
    exact RunsE.retAggTmp (m := 4) H Tryd.func22 rfl rfl rfl (by kernel_rfl) rfl m0 ⟨[], x, rfl, hR, H.drop.drop⟩
  have h3' : s.down = false := by simpa using h3
  rw [write_up h1t h2 h3', Int.toNat_natCast]
  obtain ⟨ok, ⟨us, hus, hub⟩, ql, hqr, hqi⟩ := hR
  have hql := hqi.len
  obtain ⟨_, _, el, hlc⟩ := hqr.len
  cases el
  have hql' : (ql ++ [(p, av, bs.length, cv)]).length = (s.push p bs).Q.length := by simp only [St.push, List.length_append, List.length_singleton]; omega
  refine Does.intro (args := [_, _, _]) (e := [(0, _), (1, _), (2, _)]) Tryd.func22 rfl Tryd.ntmps22 rfl rfl ?_
  repeat (first | refine RunsE.seq ?_ | refine RunsE.skip ?_ | refine RunsE.block ?_ | refine RunsE.inBlock ?_ | refine RunsE.yes rfl ?_ | refine RunsE.no rfl ?_ | refine RunsE.exit rfl ?_)
  repeat (first | refine RunsE.seq ?_ | refine RunsE.skip ?_ | refine RunsE.block ?_ | refine RunsE.inBlock ?_ | refine RunsE.yes rfl ?_ | refine RunsE.no rfl ?_ | refine RunsE.exit rfl ?_)
  refine RunsE.region ?_
  refine OpsE.ex (Ex.box H rfl) rfl ?_; (try clear H); rintro _ w ⟨b3, rfl, H⟩; simp only [Value.cells] at H
  refine OpsE.ex (Ex.alloc (zv := .agg #[.slice none 0 0, .slice none 0 0, .int .i64 0, .bool false]) H (by kernel_rfl)) rfl ?_; (try clear H); rintro _ w ⟨b6, rfl, H⟩; simp only [Value.cells] at H
  refine OpsE.ev (Ev.assign rfl) rfl ?_
  refine OpsE.nil ?_
  repeat (first | refine RunsE.seq ?_ | refine RunsE.skip ?_ | refine RunsE.block ?_ | refine RunsE.inBlock ?_ | refine RunsE.yes rfl ?_ | refine RunsE.no rfl ?_ | refine RunsE.exit rfl ?_)
  refine RunsE.region ?_
  refine OpsE.ev (Ev.move rfl) rfl ?_
  refine OpsE.ev (Ev.lss (r := false) rfl rfl (decide_eq_false (by omega))) rfl ?_
  refine OpsE.ev (Ev.move rfl) rfl ?_
  first | (refine OpsE.yes rfl rfl ?_; refine OpsE.ev (Ev.move rfl) rfl ?_) | refine OpsE.no rfl rfl rfl ?_ | refine OpsE.off rfl rfl rfl ?_
  first | (refine OpsE.yes rfl rfl ?_; refine OpsE.ev (Ev.fieldAddr (o := 0) rfl (by kernel_rfl)) rfl ?_) | refine OpsE.no rfl rfl rfl ?_ | refine OpsE.off rfl rfl rfl ?_
  first | (refine OpsE.yes rfl rfl ?_; refine OpsE.ev (Ev.load (v := .slice x.pa s.P.length x.pc) H rfl (by kernel_rfl) (Rd.mk m1 rfl)) rfl ?_) | refine OpsE.no rfl rfl rfl ?_ | refine OpsE.off rfl rfl rfl ?_
  first | (refine OpsE.yes rfl rfl ?_; refine OpsE.ev (Ev.lenSl (d := 24) rfl rfl (by kernel_rfl)) rfl ?_) | refine OpsE.no rfl rfl rfl ?_ | refine OpsE.off rfl rfl rfl ?_
  first | (refine OpsE.yes rfl rfl ?_; refine OpsE.ev (Ev.geq (r := false) rfl rfl (decide_eq_false (by omega))) rfl ?_) | refine OpsE.no rfl rfl rfl ?_ | refine OpsE.off rfl rfl rfl ?_
  refine OpsE.ev ((by first | exact Ev.pickT rfl rfl | exact Ev.pickF rfl rfl)) rfl ?_
  refine OpsE.nil ?_
  repeat (first | refine RunsE.seq ?_ | refine RunsE.skip ?_ | refine RunsE.block ?_ | refine RunsE.inBlock ?_ | refine RunsE.yes rfl ?_ | refine RunsE.no rfl ?_ | refine RunsE.exit rfl ?_)
  refine RunsE.region ?_
  refine OpsE.ev (Ev.move rfl) rfl ?_
  refine OpsE.ev (Ev.lenSl (d := 5) rfl rfl (by kernel_rfl)) rfl ?_
  refine OpsE.ev (Ev.gtr (r := false) rfl rfl (decide_eq_false (by omega))) rfl ?_
  refine OpsE.nil ?_
  repeat (first | refine RunsE.seq ?_ | refine RunsE.skip ?_ | refine RunsE.block ?_ | refine RunsE.inBlock ?_ | refine RunsE.yes rfl ?_ | refine RunsE.no rfl ?_ | refine RunsE.exit rfl ?_)
  refine RunsE.region ?_
  refine OpsE.ev (Ev.fieldAddr (o := 3) rfl (by kernel_rfl)) rfl ?_
  refine OpsE.ev (Ev.load (v := .bool false) H rfl (by kernel_rfl) (Rd.mk m1 (by rw [← h3']; rfl))) rfl ?_
  refine OpsE.nil ?_
  repeat (first | refine RunsE.seq ?_ | refine RunsE.skip ?_ | refine RunsE.block ?_ | refine RunsE.inBlock ?_ | refine RunsE.yes rfl ?_ | refine RunsE.no rfl ?_ | refine RunsE.exit rfl ?_)
  refine RunsE.region ?_
  refine OpsE.ev (Ev.fieldAddr (o := 1) rfl (by kernel_rfl)) rfl ?_
  refine OpsE.ev (Ev.load (v := .slice x.la s.Q.length x.lc) H rfl (by kernel_rfl) (Rd.mk m1 rfl)) rfl ?_
  refine OpsE.ev (Ev.fieldAddr (o := 1) rfl (by kernel_rfl)) rfl ?_
  refine OpsE.ev (Ev.load (v := .slice x.la s.Q.length x.lc) H rfl (by kernel_rfl) (Rd.mk m1 rfl)) rfl ?_
  refine OpsE.ev (Ev.lenSl (d := 74) rfl rfl (by kernel_rfl)) rfl ?_
  refine OpsE.ev (Ev.fieldAddr (o := 1) rfl (by kernel_rfl)) rfl ?_
  refine OpsE.ev (Ev.load (v := .slice x.la s.Q.length x.lc) H rfl (by kernel_rfl) (Rd.mk m1 rfl)) rfl ?_
  refine OpsE.ev (Ev.lenSl (d := 74) rfl rfl (by kernel_rfl)) rfl ?_
  refine OpsE.ev (Ev.slCap (el := 74) (sz := 2) rfl (by kernel_rfl) rfl rfl hlc) rfl ?_
  refine OpsE.ev (Ev.move rfl) rfl ?_
  refine OpsE.ev (Ev.move rfl) rfl ?_
  refine OpsE.ev (Ev.buildSt (pl := [(0, 1), (1, 1)]) (zv := .agg #[.int .i64 0, .slice none 0 0]) rfl (by kernel_rfl) (by kernel_rfl) rfl) rfl ?_
  refine OpsE.ex (Ex.buildSlP (len := 1) (sz := 2) (T := 74) (zv := .agg #[.int .i64 0, .slice none 0 0]) (cs := gQ (p, av, bs.length, cv)) H rfl (by kernel_rfl) (by kernel_rfl) rfl (by decide) (by decide)) rfl ?_; (try clear H); rintro _ w ⟨b37, rfl, H⟩
  refine OpsE.ex (Ex.appendNew (T := 74) (g := gQ) (sz := 2) (by_ := 32) (zv := .agg #[.int .i64 0, .slice none 0 0]) (xs := ql) (ys := [(p, av, bs.length, cv)]) (a := x.la) (cap := s.Q.length) H (by rw [hql]; rfl) rfl (by rw [hql]; exact hqr.cut.sub fun y hy => .tail _ (.tail _ (.tail _ (hG y hy)))) (Src.row0 H m0 rfl) (by simp only [List.length_singleton]; omega) (fun _ => rfl) (by kernel_rfl) (by kernel_rfl) (by kernel_rfl) (by kernel_rfl) rfl (by simp only [List.length_singleton]; omega) (by simp only [List.length_singleton]; omega)) rfl ?_; (try clear H); rintro v' w ⟨B, hs, H⟩; obtain ⟨a', c', hv'⟩ := hs.len; rw [hql'] at hv'; subst hv'
  refine OpsE.ev (Ev.fieldAddr (o := 1) rfl (by kernel_rfl)) rfl ?_
  refine OpsE.exn (Ex.store1 (cs' := #[.slice x.pa s.P.length x.pc, .slice a' (s.push p bs).Q.length c', .int .i64 (stepsOf s), .bool s.down]) H rfl rfl (by kernel_rfl) rfl (Upd.skip u2 B) (by simp [refV]) (Thaw.zero _ _) rfl) ?_; (try clear H); intro _ w H
  refine OpsE.nil ?_
  repeat (first | refine RunsE.seq ?_ | refine RunsE.skip ?_ | refine RunsE.block ?_ | refine RunsE.inBlock ?_ | refine RunsE.yes rfl ?_ | refine RunsE.no rfl ?_ | refine RunsE.exit rfl ?_)
  refine RunsE.region ?_
  refine OpsE.ev (Ev.loadBlk (n := 4) (vs := refV (s.push p bs) ⟨x.pa, x.pc, a', c'⟩) H rfl (by kernel_rfl) rfl (List.mem_append_right B m2)) rfl ?_
  refine OpsE.ex (Ex.call rfl Tryd.call32 (rstep_spec (s.push p bs) ⟨x.pa, x.pc, a', c'⟩ ok.left w _ H)) rfl ?_; (try clear H); rintro _ w ⟨rfl, H⟩
  refine OpsE.ev (Ev.extract rfl rfl) rfl ?_
  refine OpsE.ev (Ev.extract rfl rfl) rfl ?_
  refine OpsE.exn (Ex.storeBlk (n := 4) (vs := refV (s.push p bs).step.1 ⟨x.pa, x.pc, a', c'⟩) H rfl rfl (by kernel_rfl) rfl (refV_one _ _) (Upd.skip u1 B) rfl (Thaw.zero _ _)) ?_; (try clear H); intro _ w H
  refine OpsE.ev (Ev.assign rfl) rfl ?_
  refine OpsE.nil ?_
  repeat (first | refine RunsE.seq ?_ | refine RunsE.skip ?_ | refine RunsE.block ?_ | refine RunsE.inBlock ?_ | refine RunsE.yes rfl ?_ | refine RunsE.no rfl ?_ | refine RunsE.exit rfl ?_)
  refine RunsE.retAggTmp (m := 4) H Tryd.func22 rfl rfl rfl (by kernel_rfl) rfl (List.mem_append_right B m1) ⟨B, ⟨x.pa, x.pc, a', c'⟩, rfl, ?_, H.dropMid.dropMid.dropMid⟩
  refine RefIn.congr (s := s.push p bs) ⟨St.push_ok ok hp1 (by omega), ⟨us, hus.sub fun y hy => List.mem_append_right _ hy, hub.sub fun y hy => List.mem_append_right _ hy⟩, ql ++ [(p, av, bs.length, cv)], ?_, ?_⟩ (step_P _) (step_Q _) (St.step_ok (St.push_ok ok hp1 (by omega)))
  · have := hs.rdS (L := G) fun _ => rfl
    rw [hql'] at this
    exact this
  · exact (hqi.sub fun y hy => List.mem_append_right _ hy).push hv.right

theorem rarm_bad [Strm] (s : St) (x : RX) (n : Int) (hn : n < 0) (w : World) (X : List (Nat × Obj)) (H : SL w X) :
    Does Tryd.prog 19 #[RVal s x, .int .i64 n] w fun r w' => r = .tuple #[RVal s x, .int .i64 1] ∧ SL w' X := by
  refine Does.intro (args := [_, _]) (e := [(0, _), (1, _)]) Tryd.func19 rfl Tryd.ntmps19 rfl rfl ?_
  repeat (first | refine RunsE.seq ?_ | refine RunsE.skip ?_ | refine RunsE.block ?_ | refine RunsE.inBlock ?_ | refine RunsE.yes rfl ?_ | refine RunsE.no rfl ?_ | refine RunsE.exit rfl ?_)
  repeat (first | refine RunsE.seq ?_ | refine RunsE.skip ?_ | refine RunsE.block ?_ | refine RunsE.inBlock ?_ | refine RunsE.yes rfl ?_ | refine RunsE.no rfl ?_ | refine RunsE.exit rfl ?_)
  refine RunsE.region ?_
  refine OpsE.ex (Ex.box H rfl) rfl ?_; (try clear H); rintro _ w ⟨b2, rfl, H⟩; simp only [Value.cells] at H
  refine OpsE.ex (Ex.alloc (zv := .agg #[.slice none 0 0, .slice none 0 0, .int .i64 0, .bool false]) H (by kernel_rfl)) rfl ?_; (try clear H); rintro _ w ⟨b4, rfl, H⟩; simp only [Value.cells] at H
  refine OpsE.ev (Ev.assign rfl) rfl ?_
  refine OpsE.nil ?_
  repeat (first | refine RunsE.seq ?_ | refine RunsE.skip ?_ | refine RunsE.block ?_ | refine RunsE.inBlock ?_ | refine RunsE.yes rfl ?_ | refine RunsE.no rfl ?_ | refine RunsE.exit rfl ?_)
  refine RunsE.region ?_
  refine OpsE.ev (Ev.move rfl) rfl ?_
  refine OpsE.ev (Ev.lss (r := true) rfl rfl (decide_eq_true hn)) rfl ?_
  refine OpsE.nil ?_
  repeat (first | refine RunsE.seq ?_ | refine RunsE.skip ?_ | refine RunsE.block ?_ | refine RunsE.inBlock ?_ | refine RunsE.yes rfl ?_ | refine RunsE.no rfl ?_ | refine RunsE.exit rfl ?_)
  refine RunsE.region ?_
  refine OpsE.ev (Ev.loadBlk (n := 4) (vs := refV s x) H rfl (by kernel_rfl) rfl m1) rfl ?_
  refine OpsE.exn (Ex.storeBlk (n := 4) (vs := refV s x) H rfl rfl (by kernel_rfl) rfl (refV_one s x) u0 rfl (Thaw.zero _ _)) ?_; (try clear H); intro _ w H
  refine OpsE.ev (Ev.assign rfl) rfl ?_
  refine OpsE.nil ?_
  repeat (first | refine RunsE.seq ?_ | refine RunsE.skip ?_ | refine RunsE.block ?_ | refine RunsE.inBlock ?_ | refine RunsE.yes rfl ?_ | refine RunsE.no rfl ?_ | refine RunsE.exit rfl ?_)
  exact RunsE.retAggTmp (m := 4) H Tryd.func19 rfl rfl rfl (by kernel_rfl) rfl m0 ⟨rfl, H.drop.drop⟩

theorem rarm_spec [Strm] (s : St) (x : RX) (n : Nat) (w : World) (X : List (Nat × Obj)) (H : SL w X) :
    Does Tryd.prog 19 #[RVal s x, .int .i64 (n : Int)] w fun r w' => r = .tuple #[RVal (s.arm n) x, .int .i64 0] ∧ SL w' X := by
  refine Does.intro (args := [_, _]) (e := [(0, _), (1, _)]) Tryd.func19 rfl Tryd.ntmps19 rfl rfl ?_
  repeat (first | refine RunsE.seq ?_ | refine RunsE.skip ?_ | refine RunsE.block ?_ | refine RunsE.inBlock ?_ | refine RunsE.yes rfl ?_ | refine RunsE.no rfl ?_ | refine RunsE.exit rfl ?_)
  repeat (first | refine RunsE.seq ?_ | refine RunsE.skip ?_ | refine RunsE.block ?_ | refine RunsE.inBlock ?_ | refine RunsE.yes rfl ?_ | refine RunsE.no rfl ?_ | refine RunsE.exit rfl ?_)
  refine RunsE.region ?_
  refine OpsE.ex (Ex.box H rfl) rfl ?_; (try clear H); rintro _ w ⟨b2, rfl, H⟩; simp only [Value.cells] at H
  refine OpsE.ex (Ex.alloc (zv := .agg #[.slice none 0 0, .slice none 0 0, .int .i64 0, .bool false]) H (by kernel_rfl)) rfl ?_; (try clear H); rintro _ w ⟨b4, rfl, H⟩; simp only [Value.cells] at H
  refine OpsE.ev (Ev.assign rfl) rfl ?_
  refine OpsE.nil ?_
  repeat (first | refine RunsE.seq ?_ | refine RunsE.skip ?_ | refine RunsE.block ?_ | refine RunsE.inBlock ?_ | refine RunsE.yes rfl ?_ | refine RunsE.no rfl ?_ | refine RunsE.exit rfl ?_)
  refine RunsE.region ?_
  refine OpsE.ev (Ev.move rfl) rfl ?_
  refine OpsE.ev (Ev.lss (r := false) rfl rfl (decide_eq_false (by omega))) rfl ?_
  refine OpsE.nil ?_
  repeat (first | refine RunsE.seq ?_ | refine RunsE.skip ?_ | refine RunsE.block ?_ | refine RunsE.inBlock ?_ | refine RunsE.yes rfl ?_ | refine RunsE.no rfl ?_ | refine RunsE.exit rfl ?_)
  refine RunsE.region ?_
  refine OpsE.ev (Ev.move rfl) rfl ?_
  refine OpsE.ev (Ev.fieldAddr (o := 2) rfl (by kernel_rfl)) rfl ?_
  refine OpsE.exn (Ex.store1 (cs' := (refV (s.arm n) x).toArray) H rfl rfl (by kernel_rfl) rfl u1 (by simp [refV]) (Thaw.zero _ _) rfl) ?_; (try clear H); intro _ w H
  refine OpsE.nil ?_
  repeat (first | refine RunsE.seq ?_ | refine RunsE.skip ?_ | refine RunsE.block ?_ | refine RunsE.inBlock ?_ | refine RunsE.yes rfl ?_ | refine RunsE.no rfl ?_ | refine RunsE.exit rfl ?_)
  refine RunsE.region ?_
  refine OpsE.ev (Ev.loadBlk (n := 4) (vs := refV (s.arm n) x) H rfl (by kernel_rfl) rfl m1) rfl ?_
  refine OpsE.exn (Ex.storeBlk (n := 4) (vs := refV (s.arm n) x) H rfl rfl (by kernel_rfl) rfl (refV_one (s.arm n) x) u0 rfl (Thaw.zero _ _)) ?_; (try clear H); intro _ w H
  refine OpsE.ev (Ev.assign rfl) rfl ?_
  refine OpsE.nil ?_
  repeat (first | refine RunsE.seq ?_ | refine RunsE.skip ?_ | refine RunsE.block ?_ | refine RunsE.inBlock ?_ | refine RunsE.yes rfl ?_ | refine RunsE.no rfl ?_ | refine RunsE.exit rfl ?_)
  exact RunsE.retAggTmp (m := 4) H Tryd.func19 rfl rfl rfl (by kernel_rfl) rfl m0 ⟨rfl, H.drop.drop⟩

end Go.Proofs.YtoiehgiokfnmkaaDoor
