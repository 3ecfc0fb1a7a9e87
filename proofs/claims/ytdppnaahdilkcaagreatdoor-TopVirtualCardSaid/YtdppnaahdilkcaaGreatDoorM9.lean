/-
  The proof's parts, in one file: PagesB, PagesC, PagesR, ShT, ShU.
-/
import Derived.Test.YtdppnaahdilkcaaGreatDoorM3
import Derived.Test.YtdppnaahdilkcaaGreatDoorM2
import Derived.Test.YtdppnaahdilkcaaGreatDoorM8

section
/-
  The store's functions that change it: settle, Write, Sync, Start; Contains.
-/
namespace Go.Proofs.YtdppnaahdilkcaaGreatDoor
open Go.Proofs.YtdppnaahdilkcaaGreatDoor.V

theorem index_spec [Strm] (v : Value) (zs : List Int) (x : Int) (hl : zs.length ≤ 9223372036854775807) (w : World) (F : List (Nat × Obj)) (hv : IntsIn .i64 F v zs) (H : SL w F) :
    Does Tryz.prog 27 #[v, .int .i64 x] w fun r w' => (∃ n : Int, r = .int .i64 n ∧ decide (n ≥ 0) = zs.contains x) ∧ SL w' F := by
  obtain ⟨a, c, rfl, hc⟩ := hv.len
  refine Does.intro (args := [_, _]) (e := [(0, _), (1, _)]) Tryz.func27 rfl Tryz.ntmps27 rfl rfl ?_
  refine .st ?_
  refine .st ?_
  refine RunsE.region ?_
  refine .au1 ?_
  refine .nil ?_
  refine .st ?_
  refine RunsE.region ?_
  refine .au1 ?_
  refine .ev (Ev.lenSl (d := 3) rfl rfl (by kernel_rfl)) rfl ?_
  refine .au1 ?_
  refine .nil ?_
  repeat refine RunsE.seq ?_
  refine RunsE.join (fun _ : Unit => []) (fun _ w => SL w F ∧ zs.contains x = false) (fun next => ?_) ?_
  · refine RunsE.block ?_
    refine RunsE.loop (fun i : Nat => [(0, .slice a zs.length c), (1, .int .i64 x), (7, .int .i64 (zs.length : Int)), (8, .int .i64 (i : Int))])
      (fun i w => i ≤ zs.length ∧ SL w F ∧ ∀ j, j < i → zs[j]? ≠ some x) (fun i => zs.length - i) 0 ⟨rfl, rfl, rfl, rfl, trivial⟩ ⟨by omega, H, fun j h => by omega⟩ ?_
    clear H
    rintro i w ⟨hi, H, hn⟩ nextL
    by_cases h1 : i = zs.length
    ·
      refine .st ?_
      refine RunsE.region ?_
      refine .ev (Ev.lss (r := false) rfl rfl (decide_eq_false (by omega))) rfl ?_
      refine .nil ?_
      repeat refine RunsE.seq ?_
      refine RunsE.no rfl ?_
      refine RunsE.exit rfl ?_
      refine next () _ _ ⟨H, ?_⟩ trivial
      rw [Bool.eq_false_iff]
      intro hm
      rw [List.contains_iff_mem] at hm
      obtain ⟨j, hj⟩ := List.getElem?_of_mem hm
      refine hn j ?_ hj
      rcases Nat.lt_or_ge j zs.length with h | h
      · omega
      · rw [List.getElem?_eq_none h] at hj; cases hj
    · clear next
      obtain ⟨z, hz⟩ : ∃ z, zs[i]? = some z := ⟨zs[i]'(by omega), by simp [show i < zs.length by omega]⟩
      obtain ⟨b, off, u, rfl, hrd, rfl, _⟩ := hv.at hz
      refine .st ?_
      refine RunsE.region ?_
      refine .ev (Ev.lss (r := true) rfl rfl (decide_eq_true (by omega))) rfl ?_
      refine .nil ?_
      refine .st ?_
      refine RunsE.region ?_
      refine .au2 ?_
      refine .nil ?_
      by_cases h2 : x = z
      ·
        refine .st ?_
        refine RunsE.region ?_
        refine .au3 ?_
        refine .ev (Ev.iaSl (n := 3) (sz := 1) (m := i) (o := off + i) rfl rfl rfl (by kernel_rfl) (by omega) (by omega)) rfl ?_
        refine .ev (Ev.load H rfl (by kernel_rfl) hrd) rfl ?_
        refine .ev (Ev.eql (r := true) rfl rfl (beq_iff_eq.2 h2)) rfl ?_
        refine .nil ?_
        refine .st ?_
        refine RunsE.region ?_
        refine .au2 ?_
        refine .nil ?_
        refine .st ?_
        refine RunsE.ret1 Tryz.func27 rfl rfl ⟨⟨_, rfl, ?_⟩, H⟩
        rw [decide_eq_true (by omega)]
        exact (List.contains_iff_mem.2 (by rw [h2]; exact List.mem_of_getElem? hz)).symm
      ·
        refine .st ?_
        refine RunsE.region ?_
        refine .au3 ?_
        refine .ev (Ev.iaSl (n := 3) (sz := 1) (m := i) (o := off + i) rfl rfl rfl (by kernel_rfl) (by omega) (by omega)) rfl ?_
        refine .ev (Ev.load H rfl (by kernel_rfl) hrd) rfl ?_
        refine .ev (Ev.eql (r := false) rfl rfl (beq_eq_false_iff_ne.2 h2)) rfl ?_
        refine .nil ?_
        repeat refine RunsE.seq ?_
        refine RunsE.no rfl ?_
        refine .st ?_
        refine RunsE.region ?_
        refine .ev (Ev.add rfl rfl) rfl ?_
        refine .au1 ?_
        refine .nil ?_
        refine nextL (i + 1) _ _ (by omega) ⟨by omega, H, fun j hj => ?_⟩ ⟨rfl, rfl, rfl, rfl, trivial⟩
        rcases Nat.lt_or_eq_of_le (Nat.le_of_lt_succ hj) with h | h
        · exact hn j h
        · rw [h, hz]; intro he; exact h2 (Option.some.inj he).symm
  · clear H
    rintro _ w ⟨H, hn⟩
    refine .st ?_
    refine RunsE.region ?_
    refine .au1 ?_
    refine .nil ?_
    refine .st ?_
    exact RunsE.ret1 Tryz.func27 rfl rfl ⟨⟨_, rfl, by rw [hn]; rfl⟩, H⟩

theorem contains_spec [Strm] (v : Value) (zs : List Int) (x : Int) (hl : zs.length ≤ 9223372036854775807) (w : World) (F : List (Nat × Obj)) (hv : IntsIn .i64 F v zs) (H : SL w F) :
    Does Tryz.prog 311 #[v, .int .i64 x] w fun r w' => r = .bool (zs.contains x) ∧ SL w' F := by
  refine Does.intro (args := [_, _]) (e := [(0, _), (1, _)]) Tryz.func311 rfl Tryz.ntmps311 rfl rfl ?_
  refine .st ?_
  refine .st ?_
  refine RunsE.region ?_
  refine .au1 ?_
  refine .nil ?_
  refine .st ?_
  refine RunsE.region ?_
  refine .au2 ?_
  refine .ex (Ex.call rfl Tryz.call27 (index_spec v zs x hl w F hv H)) rfl ?_; (try clear H); rintro _ w ⟨⟨n, rfl, hn⟩, H⟩
  refine .ev (Ev.geq (r := zs.contains x) rfl rfl hn) rfl ?_
  refine .au1 ?_
  refine .nil ?_
  refine .st ?_
  exact RunsE.ret1 Tryz.func311 rfl rfl ⟨rfl, H⟩

theorem synckept_spec [Strm] (x : Value) (w : World) (F : List (Nat × Obj)) (H : SL w F) : Does Tryz.prog 339 #[x] w fun r w' => r = .bool true ∧ SL w' F := by
  refine Does.intro (args := [_]) (e := [(0, _)]) Tryz.func339 rfl Tryz.ntmps339 rfl rfl ?_
  refine .st ?_
  refine .st ?_
  refine RunsE.region ?_
  refine .au1 ?_
  refine .nil ?_
  refine .st ?_
  refine RunsE.region ?_
  refine .au1 ?_
  refine .nil ?_
  refine .st ?_
  exact RunsE.ret1 Tryz.func339 rfl rfl ⟨rfl, H⟩

set_option maxHeartbeats 1000000 in
theorem settle_spec [Strm] (s : St) (kept : Nat → Bool) (b : Nat) (A : List (Nat × Obj)) (kf : FuncId) (cap : Array Value) (hQl : s.Q.length ≤ 1000000) (w : World) (F : List (Nat × Obj)) (hA : HoldS b s A)
    (eg : ∀ args w, (callFunc kf args).run Tryz.prog w = .ok (.enter kf args) w)
    (hk : ∀ i, i < s.Q.length → ∀ w A', SL w (A' ++ F) → Does Tryz.prog kf (#[] ++ [Value.int .i64 (i : Int)].toArray ++ cap) w fun r w' => r = .bool (kept i) ∧ SL w' (A' ++ F)) (H : SL w (A ++ F)) :
    Does Tryz.prog 338 #[.pointer (some ⟨b, 0, none⟩), .func (.func kf) #[] cap] w fun r w' => ∃ A', r = .tuple #[] ∧ HoldS b (s.settle kept) A' ∧ SL w' (A' ++ F) := by
  obtain ⟨rb, pv, qv, ql, Bq, D, hp, hq, hQ, ok⟩ := hA
  obtain ⟨aq, cq, rfl, hcq⟩ := hq.leCap
  rw [List.cons_append] at H
  have hql := hQ.len
  refine Does.intro (args := [_, _]) (e := [(0, _), (1, _)]) Tryz.func338 rfl Tryz.ntmps338 rfl rfl ?_
  refine .st ?_
  refine .st ?_
  refine RunsE.region ?_
  refine .au1 ?_
  refine .ev (Ev.nilCheck rfl) rfl ?_
  refine .ev (Ev.fieldAddr (o := 1) rfl (by kernel_rfl)) rfl ?_
  refine .ev (Ev.ld H) rfl ?_
  refine .ev (Ev.lenSl (d := 440) rfl rfl (by kernel_rfl)) rfl ?_
  refine .au1 ?_
  refine .nil ?_
  repeat refine RunsE.seq ?_
  refine RunsE.join (fun _ : Unit => [(0, .pointer (some ⟨b, 0, none⟩))])
    (fun _ w => ∃ pv', PagesIn D pv' (setl kept s.Q s.P s.Q.length) ∧ SL w ((b, .cells #[.slice (some ⟨rb, 0, none⟩) s.P.length s.P.length, .slice aq ql.length cq, .int .i64 (s.left : Int), .bool s.armed, .bool s.down] 256 (0, 0)) :: (rb, .cells pv'.toArray 66 (0, 0)) :: ((Bq ++ D) ++ F))) (fun next => ?_) ?_
  · refine RunsE.block ?_
    refine RunsE.loop (fun i : Nat × List Value => [(0, .pointer (some ⟨b, 0, none⟩)), (1, .func (.func kf) #[] cap), (9, .slice aq ql.length cq), (10, .int .i64 (ql.length : Int)), (11, .int .i64 (i.1 : Int))])
      (fun i w => i.1 ≤ ql.length ∧ PagesIn D i.2 (setl kept s.Q s.P i.1) ∧ SL w ((b, .cells #[.slice (some ⟨rb, 0, none⟩) s.P.length s.P.length, .slice aq ql.length cq, .int .i64 (s.left : Int), .bool s.armed, .bool s.down] 256 (0, 0)) :: (rb, .cells i.2.toArray 66 (0, 0)) :: ((Bq ++ D) ++ F)))
      (fun i => ql.length - i.1) (0, pv) ⟨rfl, rfl, rfl, rfl, rfl, trivial⟩ ⟨by omega, hp, H⟩ ?_
    clear H hp pv
    rintro ⟨i, pv⟩ w ⟨hi, hp, H⟩ nextL
    simp only at hi hp H
    by_cases h1 : i = ql.length
    ·
      refine .st ?_
      refine RunsE.region ?_
      refine .ev (Ev.lss (r := false) rfl rfl (decide_eq_false (by simp only; omega))) rfl ?_
      refine .nil ?_
      repeat refine RunsE.seq ?_
      refine RunsE.no rfl ?_
      refine RunsE.exit rfl ?_
      rw [h1, hql] at hp
      exact next () _ _ ⟨pv, hp, H⟩ ⟨rfl, trivial⟩
    · clear next
      obtain ⟨q, hq1⟩ : ∃ q, ql[i]? = some q := ⟨ql[i]'(by omega), by simp [show i < ql.length by omega]⟩
      obtain ⟨hq2, hq3⟩ := hQ.el i q hq1
      have hqm : s.Q.getD i (0, []) ∈ s.Q := getD_mem (by omega)
      have hqp := ok.qpg _ hqm
      rw [← hq2] at hqp
      have hpl := hp.len
      rw [setl_len] at hpl
      obtain ⟨bq, cap', sp, fr, e1, rfl, hb1, hb2, hb3⟩ := hq.shape (by omega)
      cases e1
      refine .st ?_
      refine RunsE.region ?_
      refine .ev (Ev.lss (r := true) rfl rfl (decide_eq_true (by simp only; omega))) rfl ?_
      refine .nil ?_
      refine .st ?_
      refine RunsE.region ?_
      refine .au1 ?_
      refine .ev (Ev.iaSl (n := 440) (sz := 2) (m := i) (o := i * 2) rfl rfl rfl (by kernel_rfl) (by omega) (Nat.zero_add _)) rfl ?_
      refine .ev (Ev.loadPart (n := 2) (vs := gQ q) (cs := ql.flatMap gQ ++ sp) H rfl (by kernel_rfl) rfl m2 (queue_at hq1)) rfl ?_
      refine .ex (Ex.alloc (zv := .agg #[.int .i64 0, .slice none 0 0]) H (by kernel_rfl)) rfl ?_; (try clear H); rintro _ w ⟨b5, rfl, H⟩; simp only [Value.cells] at H
      refine .au1 ?_
      refine .exn (Ex.storeBlk (n := 2) H rfl rfl (by kernel_rfl) (by first | rfl | simp) (by simp [Value.oneCell']) u0 (by first | rfl | simp) (Thaw.zero _ _)) ?_; (try clear H); intro _ w H
      refine .nil ?_
      replace H : SL w ((((b5, Obj.cells (gQ q).toArray 440 (0, 0)) :: (b, .cells #[.slice (some ⟨rb, 0, none⟩) s.P.length s.P.length, .slice (some ⟨bq, 0, none⟩) ql.length cq, .int .i64 (s.left : Int), .bool s.armed, .bool s.down] 256 (0, 0)) :: (rb, .cells pv.toArray 66 (0, 0)) :: ([(bq, .cells (ql.flatMap gQ ++ sp).toArray 440 fr)] ++ D))) ++ F) := H
      refine .st ?_
      refine RunsE.region ?_
      refine .au2 ?_
      refine .ex (Ex.callv rfl rfl eg (hk i (by omega) w _ H)) rfl ?_; (try clear H); rintro _ w ⟨rfl, H⟩
      refine .nil ?_
      by_cases hki : kept i = true
      · repeat refine RunsE.seq ?_
        refine RunsE.yes (by rw [hki]; rfl) ?_
        refine .st ?_
        refine RunsE.drawS H [9] (by kernel_rfl) ?_; (try clear H); intro w H
        refine .tk 0 rfl H (fun w H => Ev.move rfl) ?_
        refine .tk 1 rfl H (fun w H => Ev.nilCheck rfl) ?_
        refine .tk 2 rfl H (fun w H => Ev.fieldAddr (o := 0) rfl (by kernel_rfl)) ?_
        refine .tk 3 rfl H (fun w H => Ev.ld H) ?_
        refine .tk 4 rfl H (fun w H => Ev.fieldAddr (o := 0) rfl (by kernel_rfl)) ?_
        refine .tk 5 rfl H (fun w H => Ev.ld H) ?_
        refine .tk 6 rfl H (fun w H => Ev.fieldAddr (o := 1) rfl (by kernel_rfl)) ?_
        refine .tk 7 rfl H (fun w H => Ev.ld H) ?_
        refine .tk 8 rfl H (fun w H => Ev.iaSl (n := 66) (sz := 1) (m := q.1) rfl rfl rfl (by kernel_rfl) (by omega)) ?_
        refine OpsD.one 9 (by kernel_rfl) (StepD.exnT rfl rfl (Ex.store1 (cs' := (pv.set q.1 (.slice q.2.1 q.2.2.1 q.2.2.2)).toArray) H rfl rfl (by kernel_rfl) rfl u2 (by simp; omega) (Thaw.zero _ _) (by simp)) ?_); (try clear H); intro _ w H
        refine OpsD.done (by kernel_rfl) ?_
        refine .st ?_
        refine RunsE.region ?_
        refine .ev (Ev.add rfl rfl) rfl ?_
        refine .au1 ?_
        refine .nil ?_
        refine nextL (i + 1, pv.set q.1 (.slice q.2.1 q.2.2.1 q.2.2.2)) _ _ (by simp only; omega) ⟨by simp only; omega, ?_, H.drop⟩ ⟨rfl, rfl, rfl, rfl, rfl, trivial⟩
        simp only [setl, hki, if_true]
        rw [← hq2]
        exact hp.set hq3 (by rw [setl_len]; exact hqp)
      · repeat refine RunsE.seq ?_
        refine RunsE.no (by rw [Bool.not_eq_true _ |>.mp hki]; rfl) ?_
        refine .st ?_
        refine RunsE.region ?_
        refine .ev (Ev.add rfl rfl) rfl ?_
        refine .au1 ?_
        refine .nil ?_
        refine nextL (i + 1, pv) _ _ (by simp only; omega) ⟨by simp only; omega, ?_, H.drop⟩ ⟨rfl, rfl, rfl, rfl, rfl, trivial⟩
        simp only [setl, hki]
        exact hp
  · clear H hp pv
    rintro _ w ⟨pv, hp, H⟩
    have hpl := hp.len
    rw [setl_len] at hpl
    refine .st ?_
    refine RunsE.region ?_
    refine .au1 ?_
    refine .ev (Ev.nilCheck rfl) rfl ?_
    refine .ev (Ev.fieldAddr (o := 1) rfl (by kernel_rfl)) rfl ?_
    refine .ev (Ev.ld H) rfl ?_
    refine .exn (Ex.clear (zv := .agg #[.int .i64 0, .slice none 0 0]) H.pull2 rfl hq (fun _ => rfl) (by kernel_rfl) (by kernel_rfl) rfl (by simp [Value.oneCell', Value.cells])) ?_; (try clear H); rintro _ w ⟨_, B', hq', H⟩; replace H := H.push2
    refine .nil ?_
    refine .st ?_
    refine RunsE.region ?_
    refine .au2 ?_
    refine .ev (Ev.nilCheck rfl) rfl ?_
    refine .ev (Ev.fieldAddr (o := 1) rfl (by kernel_rfl)) rfl ?_
    refine .ev (Ev.ld H) rfl ?_
    refine .ev (Ev.slSl0 (sz := 2) (el := 440) rfl (by kernel_rfl) hcq) rfl ?_
    refine .ev (Ev.nilCheck rfl) rfl ?_
    refine .ev (Ev.fieldAddr (o := 1) rfl (by kernel_rfl)) rfl ?_
    refine .exn (Ex.store1 H rfl rfl (by kernel_rfl) rfl u0 (by simp) (Thaw.zero _ _) rfl) ?_; (try clear H); intro _ w H
    refine .nil ?_
    refine RunsE.end0 Tryz.func338 rfl ⟨_, rfl, .mk rb pv (cut0 2 (.slice aq ql.length cq)) [] B' D hp hq' ⟨rfl, fun i q h => by simp at h⟩ (St.settle_ok ok kept), ?_⟩
    simp only [St.settle, setl_len]
    exact H

end Go.Proofs.YtdppnaahdilkcaaGreatDoor
end

section
/-
  Write, Sync, Start.
-/
namespace Go.Proofs.YtdppnaahdilkcaaGreatDoor
open Go.Proofs.YtdppnaahdilkcaaGreatDoor.V

theorem write_has {s : St} {page : Int} {bs : List UInt8} (h : s.has page = false) : s.write page bs = (s, 1) := by simp [St.write, h]
theorem write_long {s : St} {page : Int} {bs : List UInt8} (h : s.has page = true) (h2 : 4096 < bs.length) : s.write page bs = (s, 2) := by simp [St.write, h, h2]
theorem write_down {s : St} {page : Int} {bs : List UInt8} (h : s.has page = true) (h2 : ¬ 4096 < bs.length) (h3 : s.down = true) : s.write page bs = (s, 13) := by simp [St.write, h, h2, h3]
theorem write_up {s : St} {page : Int} {bs : List UInt8} (h : s.has page = true) (h2 : ¬ 4096 < bs.length) (h3 : s.down = false) : s.write page bs = (s.push page.toNat bs).step := by simp [St.write, h, h2, h3]
theorem has_nat {s : St} {page : Int} (h : s.has page = true) : ∃ p : Nat, page = (p : Int) ∧ p < s.P.length := by
  simp only [St.has, Bool.and_eq_true, decide_eq_true_eq] at h
  exact ⟨page.toNat, by omega, by omega⟩

theorem nwrite_spec [Strm] (page : Int) (v : Value) (w : World) (F : List (Nat × Obj)) (H : SL w F) : Does Tryz.prog 293 #[.pointer none, .int .i64 page, v] w fun r w' => r = EV 1 ∧ SL w' F := by
  refine Does.intro (args := [_, _, _]) (e := [(0, _), (1, _), (2, _)]) Tryz.func293 rfl Tryz.ntmps293 rfl rfl ?_
  refine .st ?_
  refine .st ?_
  refine RunsE.region ?_
  refine .au1 ?_
  refine .nil ?_
  refine .st ?_
  refine RunsE.region ?_
  refine .au2 ?_
  refine .ex (Ex.call rfl Tryz.call306 (nis_spec page w _ H)) rfl ?_; (try clear H); rintro _ w ⟨rfl, H⟩
  refine .ev (Ev.not rfl) rfl ?_
  refine .au1 ?_
  refine .nil ?_
  refine .st ?_
  refine RunsE.region ?_
  refine .ev (Ev.makeInterface (d := (.int .i64)) rfl (by kernel_rfl) rfl) rfl ?_
  refine .au1 ?_
  refine .nil ?_
  refine .st ?_
  exact RunsE.ret1 Tryz.func293 rfl rfl ⟨rfl, H⟩

set_option maxHeartbeats 1000000 in
theorem write_spec [Strm] (s : St) (page : Int) (bs : List UInt8) (v : Value) (b : Nat) (A : List (Nat × Obj)) (hQl : s.Q.length ≤ 1000000) (hl : bs.length ≤ 9223372036854775807) (w : World) (F : List (Nat × Obj)) (hA : HoldS b s A) (hv : Inp F v bs) (H : SL w (A ++ F)) :
    Does Tryz.prog 293 #[.pointer (some ⟨b, 0, none⟩), .int .i64 page, v] w fun r w' => ∃ A', r = EV (s.write page bs).2 ∧ HoldS b (s.write page bs).1 A' ∧ SL w' (A' ++ F) := by
  obtain ⟨av, cv, rfl, hcv⟩ := hv.len
  refine Does.intro (args := [_, _, _]) (e := [(0, _), (1, _), (2, _)]) Tryz.func293 rfl Tryz.ntmps293 rfl rfl ?_
  refine .st ?_
  refine .st ?_
  refine RunsE.region ?_
  refine .au1 ?_
  refine .nil ?_
  repeat refine RunsE.seq ?_
  refine RunsE.join (fun _ : Unit => [(0, .pointer (some ⟨b, 0, none⟩)), (1, .int .i64 page), (2, .slice av bs.length cv)])
    (fun _ w => SL w (A ++ F) ∧ s.has page = true ∧ ¬ 4096 < bs.length ∧ s.down = false) (fun next => ?_) ?_
  · by_cases h1 : s.has page = true
    ·
      refine .st ?_
      refine RunsE.region ?_
      refine .au2 ?_
      refine .ex (Ex.call rfl Tryz.call306 (is_spec s page b A w _ hA H)) rfl ?_; (try clear H); rintro _ w ⟨rfl, H⟩
      refine .ev (Ev.not rfl) rfl ?_
      refine .au1 ?_
      refine .nil ?_
      repeat refine RunsE.seq ?_
      refine RunsE.no (by rw [h1]; rfl) ?_
      by_cases h2 : 4096 < bs.length
      ·
        refine .st ?_
        refine RunsE.region ?_
        refine .au1 ?_
        refine .ev (Ev.lenSl (d := 5) rfl rfl (by kernel_rfl)) rfl ?_
        refine .ev (Ev.gtr (r := true) rfl rfl (decide_eq_true (by omega))) rfl ?_
        refine .au1 ?_
        refine .nil ?_
        refine .st ?_
        refine RunsE.region ?_
        refine .ev (Ev.makeInterface (d := (.int .i64)) rfl (by kernel_rfl) rfl) rfl ?_
        refine .au1 ?_
        refine .nil ?_
        refine .st ?_
        exact RunsE.ret1 Tryz.func293 rfl rfl (by rw [write_long h1 h2]; exact ⟨A, rfl, hA, H⟩)
      · obtain ⟨rb, pv, qv, ql, Bq, D, hp, hq, hQ, ok⟩ := hA
        rw [List.cons_append] at H
        refine .st ?_
        refine RunsE.region ?_
        refine .au1 ?_
        refine .ev (Ev.lenSl (d := 5) rfl rfl (by kernel_rfl)) rfl ?_
        refine .ev (Ev.gtr (r := false) rfl rfl (decide_eq_false (by omega))) rfl ?_
        refine .au1 ?_
        refine .nil ?_
        refine .st ?_
        refine RunsE.region ?_
        refine .au1 ?_
        refine .ev (Ev.nilCheck rfl) rfl ?_
        refine .ev (Ev.fieldAddr (o := 4) rfl (by kernel_rfl)) rfl ?_
        refine .ev (Ev.ld H) rfl ?_
        refine .au1 ?_
        refine .nil ?_
        by_cases h3 : s.down = true
        · repeat refine RunsE.seq ?_
          refine RunsE.yes (by rw [h3]; rfl) ?_
          refine .st ?_
          refine RunsE.region ?_
          refine .ev (Ev.makeInterface (d := (.int .i64)) rfl (by kernel_rfl) rfl) rfl ?_
          refine .au1 ?_
          refine .nil ?_
          refine .st ?_
          exact RunsE.ret1 Tryz.func293 rfl rfl (by rw [write_down h1 h2 h3]; exact ⟨_, rfl, .mk rb pv qv ql Bq D hp hq hQ ok, H⟩)
        · have h3' : s.down = false := by simpa using h3
          repeat refine RunsE.seq ?_
          refine RunsE.no (by rw [h3']; rfl) ?_
          refine RunsE.skip ?_
          refine RunsE.inBlock ?_
          exact next () _ _ ⟨H, h1, h2, h3'⟩ ⟨rfl, rfl, rfl, trivial⟩
    · have h1' : s.has page = false := by simpa using h1
      refine .st ?_
      refine RunsE.region ?_
      refine .au2 ?_
      refine .ex (Ex.call rfl Tryz.call306 (is_spec s page b A w _ hA H)) rfl ?_; (try clear H); rintro _ w ⟨rfl, H⟩
      refine .ev (Ev.not rfl) rfl ?_
      refine .au1 ?_
      refine .nil ?_
      repeat refine RunsE.seq ?_
      refine RunsE.yes (by rw [h1']; rfl) ?_
      refine .st ?_
      refine RunsE.region ?_
      refine .ev (Ev.makeInterface (d := (.int .i64)) rfl (by kernel_rfl) rfl) rfl ?_
      refine .au1 ?_
      refine .nil ?_
      refine .st ?_
      exact RunsE.ret1 Tryz.func293 rfl rfl (by rw [write_has h1']; exact ⟨A, rfl, hA, H⟩)
  · clear H
    rintro _ w ⟨H, h1, h2, h3⟩
    obtain ⟨p, rfl, hp1⟩ := has_nat h1
    obtain ⟨rb, pv, qv, ql, Bq, D, hp, hq, hQ, ok⟩ := hA
    rw [List.cons_append] at H
    obtain ⟨aq, cq, rfl, hcq⟩ := hq.leCap
    have hql := hQ.len
    refine .st ?_
    refine RunsE.drawS H [10, 13] (by kernel_rfl) ?_; (try clear H); intro w H
    refine .tu 0 rfl (fun w => Ev.move rfl) ?_
    refine .tk 1 rfl H (fun w H => Ev.move rfl) ?_
    refine .tk 2 rfl H (fun w H => Ev.nilCheck rfl) ?_
    refine .tk 3 rfl H (fun w H => Ev.fieldAddr (o := 1) rfl (by kernel_rfl)) ?_
    refine .tk 4 rfl H (fun w H => Ev.ld H) ?_
    refine .tk 5 rfl H (fun w H => Ev.move rfl) ?_
    refine .tk 6 rfl H (fun w H => Ev.move rfl) ?_
    refine OpsD.one 7 (by kernel_rfl) (StepD.ex rfl (Ex.call rfl Tryz.call134 (clone_spec _ bs (by omega) w _ (hv.sub fun p hp => by simp [hp]) H)) rfl ?_); (try clear H); rintro _ w ⟨B, hs, H⟩; obtain ⟨a', c', rfl⟩ := hs.len; refine ⟨(by first | exact H | exact H.drop | exact H.drop.drop | exact H.dropL | exact H.drop.dropL | exact H.dropL.drop | exact H.dropL.dropL | exact H.dropMid | exact H.dropL.dropL.dropL | exact H.dropL.dropL.dropL.dropL), ?_⟩
    refine .tk 8 rfl (by first | exact H | exact H.drop | exact H.drop.drop | exact H.dropL | exact H.drop.dropL | exact H.dropL.drop | exact H.dropL.dropL | exact H.dropMid | exact H.dropL.dropL.dropL | exact H.dropL.dropL.dropL.dropL) (fun w H => Ev.buildSt (pl := [(0, 1), (1, 1)]) (zv := .agg #[.int .i64 0, .slice none 0 0]) rfl (by kernel_rfl) (by kernel_rfl) rfl) ?_
    refine OpsD.one 9 (by kernel_rfl) (StepD.ex rfl (Ex.buildSlP (len := 1) (sz := 2) (T := 440) (zv := .agg #[.int .i64 0, .slice none 0 0]) (cs := gQ (p, a', bs.length, c')) H rfl (by kernel_rfl) (by kernel_rfl) rfl (by decide) (by decide)) rfl ?_); (try clear H); rintro _ w ⟨b33, rfl, H⟩; refine ⟨(by first | exact H | exact H.drop | exact H.drop.drop | exact H.dropL | exact H.drop.dropL | exact H.dropL.drop | exact H.dropL.dropL | exact H.dropMid | exact H.dropL.dropL.dropL | exact H.dropL.dropL.dropL.dropL), ?_⟩
    refine OpsD.one 10 (by kernel_rfl) (StepD.exT rfl rfl (Ex.append (g := gQ) (sz := 2) (by_ := 32) (zv := .agg #[.int .i64 0, .slice none 0 0]) (ys := [(p, a', bs.length, c')]) H.drop.pullW rfl rfl hq (Src.row0 H m0 rfl) (fun _ => rfl) (by simp [Value.oneCell']) (by kernel_rfl) (by kernel_rfl) (by kernel_rfl) (by kernel_rfl) rfl (by simp only [List.length_singleton]; omega) (by simp only [List.length_singleton]; omega)) rfl ?_); (try clear H); rintro v' w ⟨Bq', hq', H⟩; obtain ⟨a2, c2, rfl⟩ := hq'.len
    refine .tu 11 rfl (fun w => Ev.nilCheck rfl) ?_
    refine .tu 12 rfl (fun w => Ev.fieldAddr (o := 1) rfl (by kernel_rfl)) ?_
    refine OpsD.one 13 (by kernel_rfl) (StepD.exnT rfl rfl (Ex.store1 H rfl rfl (by kernel_rfl) rfl (Upd.skip u0 Bq') (by simp) (Thaw.zero _ _) rfl) ?_); (try clear H); intro _ w H; replace H := H.push2
    refine OpsD.done (by kernel_rfl) ?_
    have hQ' : QueueIn (B ++ D) (ql ++ [(p, a', bs.length, c')]) (s.push p bs).Q := (hQ.sub fun x hx => List.mem_append_right _ hx).push hs.inp
    have hA' := Hold.mk (s := s.push p bs) (TS := 256) (TP := 66) (TQ := 440) (b := b) rb pv _ _ Bq' (B ++ D) (hp.sub fun x hx => List.mem_append_right _ hx) hq' hQ' (St.push_ok ok hp1 (by omega))
    refine .st ?_
    refine RunsE.region ?_
    refine .au1 ?_
    refine .ex (Ex.call rfl Tryz.call337 (steps_spec (s.push p bs) b _ w F hA' H)) rfl ?_; (try clear H); rintro _ w ⟨A, rfl, hA, H⟩
    refine .au1 ?_
    refine .nil ?_
    refine .st ?_
    exact RunsE.ret1 Tryz.func293 rfl rfl (by rw [write_up h1 h2 h3]; exact ⟨A, rfl, hA, H⟩)

theorem nsync_spec [Strm] (w : World) (F : List (Nat × Obj)) (H : SL w F) : Does Tryz.prog 294 #[.pointer none] w fun r w' => r = EV 1 ∧ SL w' F := by
  refine Does.intro (args := [_]) (e := [(0, _)]) Tryz.func294 rfl Tryz.ntmps294 rfl rfl ?_
  refine .st ?_
  refine .st ?_
  refine RunsE.region ?_
  refine .au1 ?_
  refine .nil ?_
  refine .st ?_
  refine RunsE.region ?_
  refine .au1 ?_
  refine .ev (Ev.ptrNilEq (el := 256) rfl rfl (by kernel_rfl)) rfl ?_
  refine .au1 ?_
  refine .nil ?_
  refine .st ?_
  refine RunsE.region ?_
  refine .ev (Ev.makeInterface (d := (.int .i64)) rfl (by kernel_rfl) rfl) rfl ?_
  refine .au1 ?_
  refine .nil ?_
  refine .st ?_
  exact RunsE.ret1 Tryz.func294 rfl rfl ⟨rfl, H⟩

theorem ErrV_nil {T : TypeId} {n : Nat} (h : n = 0) : ErrV T n = .nilIface := by subst h; rfl
theorem ErrV_some {T : TypeId} {n : Nat} (h : n ≠ 0) : ErrV T n = .iface T (.int .i64 (n : Int)) := by
  obtain ⟨m, rfl⟩ : ∃ m, n = m + 1 := ⟨n - 1, by omega⟩
  rfl

theorem step_Q (s : St) : s.step.1.Q = s.Q := by
  unfold St.step
  split
  · rfl
  split <;> rfl

theorem sync_spec [Strm] (s : St) (b : Nat) (A : List (Nat × Obj)) (hQl : s.Q.length ≤ 1000000) (w : World) (F : List (Nat × Obj)) (hA : HoldS b s A) (H : SL w (A ++ F)) :
    Does Tryz.prog 294 #[.pointer (some ⟨b, 0, none⟩)] w fun r w' => ∃ A', r = EV s.sync.2 ∧ HoldS b s.sync.1 A' ∧ SL w' (A' ++ F) := by
  refine Does.intro (args := [_]) (e := [(0, _)]) Tryz.func294 rfl Tryz.ntmps294 rfl rfl ?_
  refine .st ?_
  refine .st ?_
  refine RunsE.region ?_
  refine .au1 ?_
  refine .nil ?_
  repeat refine RunsE.seq ?_
  refine RunsE.join (fun _ : Unit => [(0, .pointer (some ⟨b, 0, none⟩))]) (fun _ w => SL w (A ++ F) ∧ s.down = false) (fun next => ?_) ?_
  · obtain ⟨rb, pv, qv, ql, Bq, D, hp, hq, hQ, ok⟩ := hA
    rw [List.cons_append] at H
    refine .st ?_
    refine RunsE.region ?_
    refine .au1 ?_
    refine .ev (Ev.ptrNilEq (el := 256) rfl rfl (by kernel_rfl)) rfl ?_
    refine .au1 ?_
    refine .nil ?_
    refine .st ?_
    refine RunsE.region ?_
    refine .au1 ?_
    refine .ev (Ev.nilCheck rfl) rfl ?_
    refine .ev (Ev.fieldAddr (o := 4) rfl (by kernel_rfl)) rfl ?_
    refine .ev (Ev.ld H) rfl ?_
    refine .au1 ?_
    refine .nil ?_
    by_cases h3 : s.down = true
    · repeat refine RunsE.seq ?_
      refine RunsE.yes (by rw [h3]; rfl) ?_
      refine .st ?_
      refine RunsE.region ?_
      refine .ev (Ev.makeInterface (d := (.int .i64)) rfl (by kernel_rfl) rfl) rfl ?_
      refine .au1 ?_
      refine .nil ?_
      refine .st ?_
      exact RunsE.ret1 Tryz.func294 rfl rfl (by rw [show s.sync = (s, 13) by simp [St.sync, h3]]; exact ⟨_, rfl, .mk rb pv qv ql Bq D hp hq hQ ok, H⟩)
    · have h3' : s.down = false := by simpa using h3
      repeat refine RunsE.seq ?_
      refine RunsE.no (by rw [h3']; rfl) ?_
      refine RunsE.skip ?_
      refine RunsE.inBlock ?_
      exact next () _ _ ⟨H, h3'⟩ ⟨rfl, trivial⟩
  · clear H
    rintro _ w ⟨H, h3⟩
    refine .st ?_
    refine RunsE.region ?_
    refine .au1 ?_
    refine .ex (Ex.call rfl Tryz.call337 (steps_spec s b _ w F hA H)) rfl ?_; (try clear H); rintro _ w ⟨A, rfl, hA, H⟩
    refine .au1 ?_
    refine .nil ?_
    by_cases h4 : s.step.2 = 0
    · rw [show EV s.step.2 = .nilIface from ErrV_nil h4]
      refine .st ?_
      refine RunsE.region ?_
      refine .au1 ?_
      refine .ev (Ev.ifNilEqT rfl Tryz.underlying39) rfl ?_
      refine .nil ?_
      repeat refine RunsE.seq ?_
      refine RunsE.yes rfl ?_
      refine .st ?_
      refine RunsE.region ?_
      refine .au1 ?_
      refine .ex (Ex.call rfl Tryz.call338 (settle_spec s.step.1 (fun _ => true) b A 339 #[] (by rw [step_Q]; exact hQl) w F hA Tryz.call339 (fun i _ w A' H => synckept_spec _ w _ H) H)) rfl ?_; (try clear H); rintro _ w ⟨A, rfl, hA, H⟩
      refine .nil ?_
      refine .st ?_
      refine RunsE.region ?_
      refine .au2 ?_
      refine .nil ?_
      refine .st ?_
      exact RunsE.ret1 Tryz.func294 rfl rfl (by rw [show s.sync = (s.step.1.settle fun _ => true, 0) by simp [St.sync, h3, h4]]; exact ⟨_, rfl, hA, H⟩)
    · rw [show EV s.step.2 = .iface 58 (.int .i64 (s.step.2 : Int)) from ErrV_some h4]
      refine .st ?_
      refine RunsE.region ?_
      refine .au1 ?_
      refine .ev (Ev.ifNilEq rfl Tryz.underlying39) rfl ?_
      refine .nil ?_
      repeat refine RunsE.seq ?_
      refine RunsE.no rfl ?_
      refine RunsE.skip ?_
      refine .st ?_
      refine RunsE.region ?_
      refine .au2 ?_
      refine .nil ?_
      refine .st ?_
      exact RunsE.ret1 Tryz.func294 rfl rfl (by rw [show s.sync = s.step by simp [St.sync, h3, h4]]; exact ⟨_, (ErrV_some h4).symm, hA, H⟩)

end Go.Proofs.YtdppnaahdilkcaaGreatDoor
end

section
/-
  Read: the loose writes backward (a range over a function), then the safe page.
-/
namespace Go.Proofs.YtdppnaahdilkcaaGreatDoor
open Go.Proofs.YtdppnaahdilkcaaGreatDoor.V

theorem back_spec [Strm] (v : Value) (hv : ∃ a n c, v = .slice a n c) (w : World) (F : List (Nat × Obj)) (H : SL w F) :
    Does Tryz.prog 307 #[v] w fun r w' => ∃ c, r = .func (.func 350) #[] #[.pointer (some ⟨c, 0, none⟩)] ∧ SL w' ((c, .cells #[v] 254 (0, 0)) :: F) := by
  obtain ⟨a, n, c, rfl⟩ := hv
  refine Does.intro (args := [_]) (e := [(0, _)]) Tryz.func307 rfl Tryz.ntmps307 rfl rfl ?_
  refine .st ?_
  refine .st ?_
  refine RunsE.region ?_
  refine .ex (Ex.box H rfl) rfl ?_; (try clear H); rintro _ w ⟨b1, rfl, H⟩; simp only [Value.cells] at H
  refine .au1 ?_
  refine .nil ?_
  refine .st ?_
  refine RunsE.region ?_
  refine .ev (Ev.makeFunc rfl rfl) rfl ?_
  refine .au1 ?_
  refine .nil ?_
  refine .st ?_
  exact RunsE.ret1 Tryz.func307 rfl rfl ⟨_, rfl, H⟩

theorem backiter_spec [Strm] (r : Loop) (l c : Nat) (aq : Option Addr) (cq : Nat) (ql : List QE) (Bq L : List (Nat × Obj)) (hit : Nat → Prop) (Fin : Nat → World → Prop) (hq : Slc gQ 2 440 (.slice aq ql.length cq) ql Bq)
    (hql : ql.length ≤ 1000000) (hps : r.params.size = 2) (hc : Rd L ⟨c, 0, none⟩ (.slice aq ql.length cq)) (hB : ∀ p ∈ Bq, p ∈ L)
    (round : ∀ i q w, ql[i]? = some q → SL w ((l, .loop r) :: L) → Round Tryz.prog l r.fn ((r.params.zip [.int .i64 (i : Int), .agg (gQ q).toArray].toArray).foldl (fun tmps (t, a) => tmps.setIfInBounds t a) r.tmps) r.assign r.body w
      fun v w' => ∃ g : Bool, v = .bool g ∧ (g = true → ¬ hit i ∧ SL w' ((l, .loop r) :: L)) ∧ (g = false → Fin i w'))
    (w : World) (H : SL w ((l, .loop r) :: L)) :
    Does Tryz.prog 350 #[.func (.yield l) #[] #[], .pointer (some ⟨c, 0, none⟩)] w fun _ w' =>
      (SL w' ((l, .loop r) :: L) ∧ ∀ i, i < ql.length → ¬ hit i) ∨ ∃ i, i < ql.length ∧ (∀ j, i < j → j < ql.length → ¬ hit j) ∧ Fin i w' := by
  refine Does.intro (args := [_, _]) (e := [(0, _), (1, _)]) Tryz.func350 rfl Tryz.ntmps350 rfl rfl ?_
  refine .st ?_
  refine .st ?_
  refine RunsE.region ?_
  refine .ev (Ev.load H rfl (by kernel_rfl) hc.tail) rfl ?_
  refine .ev (Ev.lenSl (d := 440) rfl rfl (by kernel_rfl)) rfl ?_
  refine .ev (Ev.sub (c := (ql.length : Int) - 1) rfl rfl (qi64 (by omega) (by omega))) rfl ?_
  refine .au1 ?_
  refine .nil ?_
  refine RunsE.block ?_
  refine RunsE.loop (fun k : Nat => [(0, .func (.yield l) #[] #[]), (1, .pointer (some ⟨c, 0, none⟩)), (3, .int .i64 ((k : Int) - 1))])
    (fun k w => k ≤ ql.length ∧ SL w ((l, .loop r) :: L) ∧ ∀ j, k ≤ j → j < ql.length → ¬ hit j) (fun k => k) ql.length ⟨rfl, rfl, rfl, trivial⟩ ⟨by omega, H, fun j h1 h2 => by omega⟩ ?_
  clear H
  rintro k w ⟨hk, H, hn⟩ nextL
  cases k with
  | zero =>
    refine .st ?_
    refine RunsE.region ?_
    refine .au1 ?_
    refine .ev (Ev.geq (r := false) rfl rfl (decide_eq_false (by omega))) rfl ?_
    refine .nil ?_
    repeat refine RunsE.seq ?_
    refine RunsE.no rfl ?_
    refine RunsE.exit rfl ?_
    exact RunsE.end0 Tryz.func350 rfl (.inl ⟨H, fun i hi => hn i (by omega) hi⟩)
  | succ i =>
    obtain ⟨q, hq1⟩ : ∃ q, ql[i]? = some q := ⟨ql[i]'(by omega), by simp [show i < ql.length by omega]⟩
    obtain ⟨bq, cap', sp, fr, e1, rfl, hb1, hb2, hb3⟩ := hq.shape (by omega)
    cases e1
    have hm := hB _ (.head _)
    refine .st ?_
    refine RunsE.region ?_
    refine .au1 ?_
    refine .ev (Ev.geq (r := true) rfl rfl (decide_eq_true (by omega))) rfl ?_
    refine .nil ?_
    refine .st ?_
    refine .st ?_
    refine RunsE.region ?_
    refine .au2 ?_
    refine .ev (Ev.load H rfl (by kernel_rfl) hc.tail) rfl ?_
    refine .au1 ?_
    refine .ev (Ev.iaSl (n := 440) (sz := 2) (m := i) (o := i * 2) rfl rfl (by omega) (by kernel_rfl) (by omega) (Nat.zero_add _)) rfl ?_
    refine .ev (Ev.loadPart (n := 2) (vs := gQ q) (cs := ql.flatMap gQ ++ sp) H rfl (by kernel_rfl) rfl (.tail _ hm) (queue_at hq1)) rfl ?_
    refine .exR (ExR.yield (vs := [.int .i64 ((i + 1 : Nat) - 1), .agg (gQ q).toArray]) H m0 rfl rfl (by rw [hps]; rfl) (by rw [show (((i + 1 : Nat) : Int) - 1) = (i : Int) by omega]; exact round i q w hq1 H)) rfl ?_; rintro _ w ⟨g, rfl, hg1, hg2⟩
    refine .ev (Ev.not rfl) rfl ?_
    refine .nil ?_
    cases g with
    | true =>
      obtain ⟨hh, H⟩ := hg1 rfl
      repeat refine RunsE.seq ?_
      refine RunsE.no rfl ?_
      refine RunsE.skip ?_
      refine RunsE.inBlock ?_
      refine .st ?_
      refine RunsE.region ?_
      refine .au1 ?_
      refine .ev (Ev.sub (c := (i : Int) - 1) rfl rfl (by rw [qi64 (by omega) (by omega)]; omega)) rfl ?_
      refine .au1 ?_
      refine .nil ?_
      refine nextL i _ _ (by omega) ⟨by omega, H, fun j h1 h2 => ?_⟩ ⟨rfl, rfl, rfl, trivial⟩
      rcases Nat.lt_or_eq_of_le h1 with h | h
      · exact hn j h h2
      · rw [← h]; exact hh
    | false =>
      have hf := hg2 rfl
      repeat refine RunsE.seq ?_
      refine RunsE.yes rfl ?_
      exact RunsE.ret0 Tryz.func350 rfl (.inr ⟨i, by omega, fun j h1 h2 => hn j (by omega) h2, hf⟩)

theorem lastW_none {Q : List (Nat × List UInt8)} {p : Nat} : ∀ k, (∀ i, i < k → (Q.getD i (0, [])).1 ≠ p) → lastW Q p k = none
  | 0, _ => rfl
  | k + 1, h => by
    unfold lastW
    rw [if_neg (h k (by omega))]
    exact lastW_none k fun i hi => h i (by omega)

theorem lastW_some {Q : List (Nat × List UInt8)} {p i : Nat} (hp : (Q.getD i (0, [])).1 = p) : ∀ k, i < k → (∀ j, i < j → j < k → (Q.getD j (0, [])).1 ≠ p) → lastW Q p k = some (Q.getD i (0, [])).2
  | 0, h, _ => by omega
  | k + 1, hlt, h => by
    unfold lastW
    rcases Nat.lt_or_eq_of_le (Nat.le_of_lt_succ hlt) with h1 | h1
    · rw [if_neg (h k h1 (by omega))]
      exact lastW_some hp k h1 fun j h2 h3 => h j h2 (by omega)
    · subst h1
      rw [if_pos hp]

theorem read_has {s : St} {page : Int} (h : s.has page = false) : s.read page = ([], 1) := by simp [St.read, h]
theorem read_down {s : St} {page : Int} (h : s.has page = true) (h3 : s.down = true) : s.read page = ([], 13) := by simp [St.read, h, h3]
theorem read_up {s : St} {page : Int} (h : s.has page = true) (h3 : s.down = false) : s.read page = (s.page page.toNat, 0) := by simp [St.read, h, h3]

theorem nread_spec [Strm] (page : Int) (w : World) (F : List (Nat × Obj)) (H : SL w F) : Does Tryz.prog 252 #[.pointer none, .int .i64 page] w fun r w' => r = .tuple #[.slice none 0 0, EV 1] ∧ SL w' F := by
  refine Does.intro (args := [_, _]) (e := [(0, _), (1, _)]) Tryz.func252 rfl Tryz.ntmps252 rfl rfl ?_
  refine .st ?_
  refine .st ?_
  refine RunsE.region ?_
  refine .ex (Ex.box H rfl) rfl ?_; (try clear H); rintro _ w ⟨b3, rfl, H⟩; simp only [Value.cells] at H
  refine .ex (Ex.alloc (zv := .slice none 0 0) H (by kernel_rfl)) rfl ?_; (try clear H); rintro _ w ⟨b4, rfl, H⟩; simp only [Value.cells] at H
  refine .ex (Ex.alloc (zv := .nilIface) H (by kernel_rfl)) rfl ?_; (try clear H); rintro _ w ⟨b5, rfl, H⟩; simp only [Value.cells] at H
  refine .nil ?_
  refine .st ?_
  refine RunsE.region ?_
  refine .au1 ?_
  refine .ev (Ev.load H rfl (by kernel_rfl) (Rd.mk m2 rfl)) rfl ?_
  refine .ex (Ex.call rfl Tryz.call306 (nis_spec page w _ H)) rfl ?_; (try clear H); rintro _ w ⟨rfl, H⟩
  refine .ev (Ev.not rfl) rfl ?_
  refine .au1 ?_
  refine .nil ?_
  refine .st ?_
  refine RunsE.region ?_
  refine .ev (Ev.makeInterface (d := (.int .i64)) rfl (by kernel_rfl) rfl) rfl ?_
  refine .exn (Ex.store1 H rfl rfl (by kernel_rfl) rfl u1 (by simp) (Thaw.zero _ _) rfl) ?_; (try clear H); intro _ w H
  refine .exn (Ex.store1 H rfl rfl (by kernel_rfl) rfl u0 (by simp) (Thaw.zero _ _) rfl) ?_; (try clear H); intro _ w H
  refine .nil ?_
  refine .st ?_
  exact RunsE.ret2Cells H Tryz.func252 rfl rfl rfl (by kernel_rfl) (by kernel_rfl) (Rd.mk m1 rfl) (Rd.mk m0 rfl) ⟨rfl, H.drop.drop.drop⟩

set_option maxHeartbeats 1000000 in
theorem read_spec [Strm] (s : St) (page : Int) (b : Nat) (A : List (Nat × Obj)) (hQl : s.Q.length ≤ 1000000) (w : World) (F : List (Nat × Obj)) (hA : HoldS b s A) (H : SL w (A ++ F)) :
    Does Tryz.prog 252 #[.pointer (some ⟨b, 0, none⟩), .int .i64 page] w fun r w' => ∃ v B, r = .tuple #[v, EV (s.read page).2] ∧ Slc gB 1 5 v (s.read page).1 B ∧ SL w' (B ++ (A ++ F)) := by
  refine Does.intro (args := [_, _]) (e := [(0, _), (1, _)]) Tryz.func252 rfl Tryz.ntmps252 rfl rfl ?_
  refine .st ?_
  refine .st ?_
  refine RunsE.region ?_
  refine .ex (Ex.box H rfl) rfl ?_; (try clear H); rintro _ w ⟨b3, rfl, H⟩; simp only [Value.cells] at H; replace H := H.mid
  refine .ex (Ex.alloc (zv := .slice none 0 0) H (by kernel_rfl)) rfl ?_; (try clear H); rintro _ w ⟨b4, rfl, H⟩; simp only [Value.cells] at H; replace H := H.mid
  refine .ex (Ex.alloc (zv := .nilIface) H (by kernel_rfl)) rfl ?_; (try clear H); rintro _ w ⟨b5, rfl, H⟩; simp only [Value.cells] at H; replace H := H.mid
  refine .nil ?_
  repeat refine RunsE.seq ?_
  refine RunsE.join (fun _ : Unit => [(0, .pointer (some ⟨b, 0, none⟩)), (3, .pointer (some ⟨b3, 0, none⟩)), (4, .pointer (some ⟨b4, 0, none⟩)), (5, .pointer (some ⟨b5, 0, none⟩))])
    (fun _ w => SL w ((b5, .cells #[.nilIface] 39 (0, 0)) :: (b4, .cells #[.slice none 0 0] 66 (0, 0)) :: (b3, .cells #[.int .i64 page] 3 (0, 0)) :: (A ++ F)) ∧ s.has page = true ∧ s.down = false) (fun next => ?_) ?_
  · by_cases h1 : s.has page = true
    ·
      refine .st ?_
      refine RunsE.region ?_
      refine .au1 ?_
      refine .ev (Ev.load H rfl (by kernel_rfl) (Rd.right (Rd.mk m2 rfl))) rfl ?_
      refine .ex (Ex.call rfl Tryz.call306 (is_spec s page b A w _ hA H)) rfl ?_; (try clear H); rintro _ w ⟨rfl, H⟩
      refine .ev (Ev.not rfl) rfl ?_
      refine .au1 ?_
      refine .nil ?_
      repeat refine RunsE.seq ?_
      refine RunsE.no (by rw [h1]; rfl) ?_
      replace H := H.unmid3
      obtain ⟨rb, pv, qv, ql, Bq, D, hp, hq, hQ, ok⟩ := hA
      rw [List.cons_append] at H
      refine .st ?_
      refine RunsE.region ?_
      refine .au1 ?_
      refine .ev (Ev.nilCheck rfl) rfl ?_
      refine .ev (Ev.fieldAddr (o := 4) rfl (by kernel_rfl)) rfl ?_
      refine .ev (Ev.load H rfl (by kernel_rfl) (Rd.mk m3 rfl)) rfl ?_
      refine .au1 ?_
      refine .nil ?_
      by_cases h3 : s.down = true
      · repeat refine RunsE.seq ?_
        refine RunsE.yes (by rw [h3]; rfl) ?_
        refine .st ?_
        refine RunsE.region ?_
        refine .ev (Ev.makeInterface (d := (.int .i64)) rfl (by kernel_rfl) rfl) rfl ?_
        refine .exn (Ex.store1 H rfl rfl (by kernel_rfl) rfl u1 (by simp) (Thaw.zero _ _) rfl) ?_; (try clear H); intro _ w H
        refine .exn (Ex.store1 H rfl rfl (by kernel_rfl) rfl u0 (by simp) (Thaw.zero _ _) rfl) ?_; (try clear H); intro _ w H
        refine .nil ?_
        refine .st ?_
        exact RunsE.ret2Cells H Tryz.func252 rfl rfl rfl (by kernel_rfl) (by kernel_rfl) (Rd.mk m1 rfl) (Rd.mk m0 rfl) ⟨_, [], by rw [read_down h1 h3]; rfl, by rw [read_down h1 h3]; exact .nil, H.drop.drop.drop⟩
      · have h3' : s.down = false := by simpa using h3
        repeat refine RunsE.seq ?_
        refine RunsE.no (by rw [h3']; rfl) ?_
        refine RunsE.skip ?_
        refine RunsE.inBlock ?_
        exact next () _ _ ⟨H, h1, h3'⟩ ⟨rfl, rfl, rfl, rfl, trivial⟩
    · have h1' : s.has page = false := by simpa using h1
      refine .st ?_
      refine RunsE.region ?_
      refine .au1 ?_
      refine .ev (Ev.load H rfl (by kernel_rfl) (Rd.right (Rd.mk m2 rfl))) rfl ?_
      refine .ex (Ex.call rfl Tryz.call306 (is_spec s page b A w _ hA H)) rfl ?_; (try clear H); rintro _ w ⟨rfl, H⟩
      refine .ev (Ev.not rfl) rfl ?_
      refine .au1 ?_
      refine .nil ?_
      repeat refine RunsE.seq ?_
      refine RunsE.yes (by rw [h1']; rfl) ?_
      replace H := H.unmid3
      refine .st ?_
      refine RunsE.region ?_
      refine .ev (Ev.makeInterface (d := (.int .i64)) rfl (by kernel_rfl) rfl) rfl ?_
      refine .exn (Ex.store1 H rfl rfl (by kernel_rfl) rfl u1 (by simp) (Thaw.zero _ _) rfl) ?_; (try clear H); intro _ w H
      refine .exn (Ex.store1 H rfl rfl (by kernel_rfl) rfl u0 (by simp) (Thaw.zero _ _) rfl) ?_; (try clear H); intro _ w H
      refine .nil ?_
      refine .st ?_
      exact RunsE.ret2Cells H Tryz.func252 rfl rfl rfl (by kernel_rfl) (by kernel_rfl) (Rd.mk m1 rfl) (Rd.mk m0 rfl) ⟨_, [], by rw [read_has h1']; rfl, by rw [read_has h1']; exact .nil, H.drop.drop.drop⟩
  · clear H
    rintro _ w ⟨H, h1, h3⟩
    obtain ⟨p, rfl, hp1⟩ := has_nat h1
    rw [read_up h1 h3, Int.toNat_natCast]
    obtain ⟨rb, pv, qv, ql, Bq, D, hp, hq, hQ, ok⟩ := hA
    obtain ⟨aq, cq, rfl, hcq⟩ := hq.leCap
    rw [List.cons_append] at H
    have hql := hQ.len
    refine .st ?_
    refine RunsE.region ?_
    refine .au1 ?_
    refine .ev (Ev.nilCheck rfl) rfl ?_
    refine .ev (Ev.fieldAddr (o := 1) rfl (by kernel_rfl)) rfl ?_
    refine .ev (Ev.load H rfl (by kernel_rfl) (Rd.mk m3 rfl)) rfl ?_
    refine .ex (Ex.call rfl Tryz.call307 (back_spec _ ⟨_, _, _, rfl⟩ w _ H)) rfl ?_; (try clear H); rintro _ w ⟨c, rfl, H⟩
    refine .nil ?_
    obtain ⟨M, hM⟩ : ∃ M : Value → List (Nat × Obj), M = fun v => (c, .cells #[.slice aq ql.length cq] 254 (0, 0)) :: (b5, .cells #[.nilIface] 39 (0, 0)) :: (b4, .cells #[v] 66 (0, 0)) :: (b3, .cells #[.int .i64 (p : Int)] 3 (0, 0)) :: ((b, .cells #[.slice (some ⟨rb, 0, none⟩) s.P.length s.P.length, .slice aq ql.length cq, .int .i64 (s.left : Int), .bool s.armed, .bool s.down] 256 (0, 0)) :: ((rb, .cells pv.toArray 66 (0, 0)) :: (Bq ++ D) ++ F)) := ⟨_, rfl⟩
    replace H : SL w (M (.slice none 0 0)) := by rw [hM]; exact H
    refine .st ?_
    refine RunsE.rangeFuncR (fun pe L2 => (pe = none ∧ (∀ i, i < ql.length → (s.Q.getD i (0, [])).1 ≠ p) ∧ L2 = M (.slice none 0 0)) ∨
        (pe = some .ret ∧ ∃ i v B, i < ql.length ∧ (s.Q.getD i (0, [])).1 = p ∧ (∀ j, i < j → j < ql.length → (s.Q.getD j (0, [])).1 ≠ p) ∧ Slc gB 1 5 v (s.Q.getD i (0, [])).2 B ∧ L2 = B ++ M v))
      H rfl Tryz.call350 (fun r l Dd w1 e1 e2 e3 e4 e5 e6 hfit H => ?_) (fun pe L2 Dd w hJ H => ?_)
    · refine Does.mono (backiter_spec r l c aq cq ql Bq ((Dd, .deferred (some [])) :: M (.slice none 0 0)) (fun i => (s.Q.getD i (0, [])).1 = p)
        (fun i w' => ∃ v B, (s.Q.getD i (0, [])).1 = p ∧ Slc gB 1 5 v (s.Q.getD i (0, [])).2 B ∧ SL w' ((l, .loop { r with state := .done, pending := some .ret }) :: (Dd, .deferred (some [])) :: (B ++ M v)))
        hq (by omega) (by rw [e4]; rfl) (by rw [hM]; exact Rd.mk m1 rfl) (fun x hx => by rw [hM]; simp [hx]) (fun i q w hiq H => ?_) w1 H) ?_
      · have hil : i < ql.length := by
          rcases Nat.lt_or_ge i ql.length with h | h
          · exact h
          · rw [List.getElem?_eq_none h] at hiq; cases hiq
        obtain ⟨hq2, hq3⟩ := hQ.el i q hiq
        have hqm : s.Q.getD i (0, []) ∈ s.Q := getD_mem (by omega)
        have hqs := ok.qsz _ hqm
        rw [e3, e4, e5, e6]
        refine Round.mk (Fits.two (a := 25) (b := 26) hfit rfl rfl _ _) ?_
        refine .st ?_
        refine RunsE.region ?_
        refine .ex (Ex.alloc (zv := .agg #[.int .i64 0, .slice none 0 0]) H (by kernel_rfl)) rfl ?_; (try clear H); rintro _ w ⟨b7, rfl, H⟩; simp only [Value.cells] at H
        refine .exn (Ex.storeBlk (n := 2) (vs := gQ q) H rfl rfl (by kernel_rfl) rfl (by simp [Value.oneCell']) u0 rfl (Thaw.zero _ _)) ?_; (try clear H); intro _ w H
        refine .nil ?_
        refine RunsE.beginRound H u1 e1 fun w H => ?_
        have hMr : M (.slice none 0 0) = (c, .cells #[.slice aq ql.length cq] 254 (0, 0)) :: (b5, .cells #[.nilIface] 39 (0, 0)) :: (b4, .cells #[.slice none 0 0] 66 (0, 0)) :: (b3, .cells #[.int .i64 (p : Int)] 3 (0, 0)) :: ((b, .cells #[.slice (some ⟨rb, 0, none⟩) s.P.length s.P.length, .slice aq ql.length cq, .int .i64 (s.left : Int), .bool s.armed, .bool s.down] 256 (0, 0)) :: ((rb, .cells pv.toArray 66 (0, 0)) :: (Bq ++ D) ++ F)) := by rw [hM]
        rw [hMr] at H
        refine .st ?_
        refine RunsE.region ?_
        refine .ev (Ev.fieldAddr (o := 0) rfl (by kernel_rfl)) rfl ?_
        refine .ev (Ev.ld H) rfl ?_
        refine .ev (Ev.load H rfl (by kernel_rfl) (Rd.mk m6 rfl)) rfl ?_
        refine .ev (Ev.eql (r := decide (q.1 = p)) rfl rfl (by rw [Bool.eq_iff_iff, beq_iff_eq, decide_eq_true_iff]; omega)) rfl ?_
        refine .nil ?_
        by_cases hqp : q.1 = p
        · repeat refine RunsE.seq ?_
          refine RunsE.yes (by rw [decide_eq_true hqp]; rfl) ?_
          refine .st ?_
          refine RunsE.region ?_
          refine .ev (Ev.fieldAddr (o := 1) rfl (by kernel_rfl)) rfl ?_
          refine .ev (Ev.ld H) rfl ?_
          refine .ex (Ex.call rfl Tryz.call134 (clone_spec _ _ (by omega) w _ (hq3.sub fun p hp => by simp [hp]) H)) rfl ?_; (try clear H); rintro _ w ⟨B, hs, H⟩; obtain ⟨a', c', rfl⟩ := hs.len
          refine .exn (Ex.store1 H rfl rfl (by kernel_rfl) rfl (Upd.skip u5 B) (by simp) (Thaw.zero _ _) rfl) ?_; (try clear H); intro _ w H
          refine .exn (Ex.store1 H rfl rfl (by kernel_rfl) rfl (Upd.skip u4 B) (by simp) (Thaw.zero _ _) rfl) ?_; (try clear H); intro _ w H
          refine .nil ?_
          refine .st ?_
          refine RunsE.roundRet H (Upd.skip u1 B) fun w H => ⟨false, ⟨rfl, ⟨fun h => (nomatch h), fun _ => ⟨_, B, by rw [← hq2]; exact hqp, hs, ?_⟩⟩⟩⟩
          rw [hM]
          have H' := H.unmid.drop.unmid2
          simp only [e3, e4, e5, e6] at H'
          exact H'
        · repeat refine RunsE.seq ?_
          refine RunsE.no (by rw [decide_eq_false hqp]; rfl) ?_
          refine RunsE.skip ?_
          refine RunsE.inBlock ?_
          refine RunsE.roundEnd H u1 fun w H => ⟨true, ⟨rfl, ⟨fun _ => ⟨by rw [← hq2]; exact hqp, ?_⟩, fun h => (nomatch h)⟩⟩⟩
          rw [hM]
          have er : ({ ({ r with state := .busy } : Loop) with state := .ready, pending := none } : Loop) = r := by cases r; simp only at e1 e2; subst e1 e2; rfl
          rw [er] at H
          exact H.drop
      · rintro _ w4 (⟨H, hn⟩ | ⟨i, hi, hn, v, B, h4, hs, H⟩)
        · refine ⟨.ready, none, _, by simp, .inl ⟨rfl, hn, rfl⟩, ?_⟩
          have er : ({ r with state := .ready, pending := none } : Loop) = r := by cases r; simp only at e1 e2; subst e1 e2; rfl
          rw [er]
          exact H
        · exact ⟨.done, some .ret, _, by simp, .inr ⟨rfl, i, v, B, hi, h4, hn, hs, rfl⟩, H⟩
    · rcases hJ with ⟨rfl, hn, rfl⟩ | ⟨rfl, i, v, B, hi, h4, hn, hs, rfl⟩
      · have hpg : s.page p = s.P.getD p [] := by rw [St.page, lastW_none _ fun i hi => hn i (by omega)]; rfl
        have hpl := hp.len
        obtain ⟨u, hu⟩ : ∃ u, pv[p]? = some u := ⟨pv[p]'(by omega), by simp [show p < pv.length by omega]⟩
        have hin := hp.el p u hu
        have hsz := ok.psz _ (getD_mem (d := []) hp1)
        obtain ⟨au, cu, rfl, _⟩ := hin.len
        rw [hM] at H
        refine RunsE.inBlock ?_
        refine .st ?_
        refine RunsE.drawS H [8, 9] (by kernel_rfl) ?_; (try clear H); intro w H
        refine .tk 0 rfl H (fun w H => Ev.move rfl) ?_
        refine .tk 1 rfl H (fun w H => Ev.nilCheck rfl) ?_
        refine .tk 2 rfl H (fun w H => Ev.fieldAddr (o := 0) rfl (by kernel_rfl)) ?_
        refine .tk 3 rfl H (fun w H => Ev.load H rfl (by kernel_rfl) (Rd.mk m5 rfl)) ?_
        refine .tk 4 rfl H (fun w H => Ev.load H rfl (by kernel_rfl) (Rd.mk m4 rfl)) ?_
        refine .tk 5 rfl H (fun w H => Ev.iaSl (n := 66) (sz := 1) (m := p) rfl rfl rfl (by kernel_rfl) hp1) ?_
        refine .tk 6 rfl H (fun w H => Ev.load H rfl (by kernel_rfl) (Rd.mk m6 (by simpa using hu))) ?_
        refine OpsD.one 7 (by kernel_rfl) (StepD.ex rfl (Ex.call rfl Tryz.call134 (clone_spec _ _ (by omega) w _ (hin.sub fun p hp => by simp [hp]) H)) rfl ?_); (try clear H); rintro _ w ⟨B, hs, H⟩; obtain ⟨a', c', rfl⟩ := hs.len; refine ⟨(by first | exact H | exact H.drop | exact H.drop.drop | exact H.dropL | exact H.drop.dropL | exact H.dropL.drop | exact H.dropL.dropL | exact H.dropMid | exact H.dropL.dropL.dropL | exact H.dropL.dropL.dropL.dropL), ?_⟩
        refine OpsD.one 8 (by kernel_rfl) (StepD.exnT rfl rfl (Ex.store1 H rfl rfl (by kernel_rfl) rfl (Upd.skip u3 B) (by simp) (Thaw.zero _ _) rfl) ?_); (try clear H); intro _ w H
        refine OpsD.one 9 (by kernel_rfl) (StepD.exnT rfl rfl (Ex.store1 H rfl rfl (by kernel_rfl) rfl (Upd.skip u2 B) (by simp) (Thaw.zero _ _) rfl) ?_); (try clear H); intro _ w H
        refine OpsD.done (by kernel_rfl) ?_
        refine .st ?_
        refine RunsE.ret2CellsM H (Upd.skip u0 B) Tryz.func252 rfl rfl rfl (by kernel_rfl) (by kernel_rfl) (Rd.right (Rd.mk m3 rfl)) (Rd.right (Rd.mk m2 rfl)) fun w H => ⟨_, B, rfl, by rw [hpg]; exact hs, ?_⟩
        exact H.dropMid.dropMid.dropMid.dropMid.dropMid
      · have hpg : s.page p = (s.Q.getD i (0, [])).2 := by rw [St.page, lastW_some h4 s.Q.length (by omega) fun j h1 h2 => hn j h1 (by omega)]; rfl
        rw [hM] at H
        refine RunsE.ret2CellsM H u0 Tryz.func252 rfl rfl rfl (by kernel_rfl) (by kernel_rfl) (Rd.tail (Rd.right (Rd.mk m2 rfl))) (Rd.tail (Rd.right (Rd.mk m1 rfl))) fun w H => ⟨_, B, rfl, by rw [hpg]; exact hs, ?_⟩
        exact H.drop.dropMid.dropMid.dropMid.dropMid

end Go.Proofs.YtdppnaahdilkcaaGreatDoor
end

section
/-
  The shelf, walked: the leaves are written.
-/
namespace Go.Proofs.YtdppnaahdilkcaaGreatDoor.V

theorem perm_of {α : Type} {l l' : List α} (h : ∀ [DecidableEq α] (a : α), l.count a = l'.count a) : l.Perm l' := by
  classical
  exact List.perm_iff_count.2 fun a => h a

/-- Some blocks are not known any more. -/
theorem SL.less [Strm] {w : World} {L L' : List (Nat × Obj)} (D : List (Nat × Obj)) (h : SL w L) (hp : (L' ++ D).Perm L) : SL w L' := (h.perm hp).appendPerm.dropL

theorem writes_snoc {st : St} {fr : Nat} : ∀ {xs : List Lf} {y : Lf}, (writesM st fr xs).2 = 0 → writesM st fr (xs ++ [y]) = (writesM st fr xs).1.write ((fr + y.place : Nat) : Int) (pageM y.key y.val)
  | [], y, _ => by
    show writesM st fr [y] = st.write _ _
    unfold writesM
    split
    · rfl
    · rename_i h
      have h : (st.write ((fr + y.place : Nat) : Int) (pageM y.key y.val)).2 = 0 := by simpa using h
      unfold writesM
      exact Prod.ext rfl h.symm
  | x :: r, y, h => by
    rw [List.cons_append]
    unfold writesM at h ⊢
    by_cases h1 : (st.write ((fr + x.place : Nat) : Int) (pageM x.key x.val)).2 ≠ 0
    · rw [if_pos h1] at h; exact absurd h h1
    · rw [if_neg h1] at h
      rw [if_neg h1, if_neg h1]
      exact writes_snoc h

theorem writes_stop {st : St} {fr : Nat} : ∀ {xs ys : List Lf}, (writesM st fr xs).2 ≠ 0 → writesM st fr (xs ++ ys) = writesM st fr xs
  | [], ys, h => absurd rfl h
  | x :: r, ys, h => by
    rw [List.cons_append]
    unfold writesM at h ⊢
    by_cases h1 : (st.write ((fr + x.place : Nat) : Int) (pageM x.key x.val)).2 ≠ 0
    · rw [if_pos h1, if_pos h1]
    · rw [if_neg h1] at h
      rw [if_neg h1, if_neg h1]
      exact writes_stop h

theorem step_Qn (s : St) : s.step.1.Q = s.Q := by
  unfold St.step
  split
  · rfl
  · split <;> rfl
theorem write_Qn (s : St) (p : Int) (bs : List UInt8) : (s.write p bs).1.Q.length ≤ s.Q.length + 1 := by
  unfold St.write
  split
  · exact Nat.le_succ _
  · split
    · exact Nat.le_succ _
    · split
      · exact Nat.le_succ _
      · rw [step_Qn]; simp [St.push]
theorem sync_Qn (s : St) : s.sync.1.Q.length ≤ s.Q.length := by
  unfold St.sync
  split
  · exact Nat.le_refl _
  · split
    · simp [St.settle]
    · rw [step_Qn]; exact Nat.le_refl _
theorem writes_Qn {st : St} {fr : Nat} : ∀ {xs : List Lf}, (writesM st fr xs).1.Q.length ≤ st.Q.length + xs.length
  | [] => Nat.le_refl _
  | x :: r => by
    have h1 := write_Qn st ((fr + x.place : Nat) : Int) (pageM x.key x.val)
    unfold writesM
    split
    · simp only [List.length_cons]; omega
    · have h2 := writes_Qn (st := (st.write ((fr + x.place : Nat) : Int) (pageM x.key x.val)).1) (fr := fr) (xs := r)
      simp only [List.length_cons]
      omega
end Go.Proofs.YtdppnaahdilkcaaGreatDoor.V
namespace Go.Proofs.YtdppnaahdilkcaaGreatDoor
open Go.Proofs.YtdppnaahdilkcaaGreatDoor.V

section
variable {w : World} {e : Env} {ty t' : TypeId} {x : Operand}
theorem Ev.errNe {n : Nat} {r : Bool} (hx : e.val x = some (EV n)) (hr : decide (n ≠ 0) = r := by rfl) : Ev Tryz.prog w e (.binOp .neq 39 x (.const .nilIface) t') ty (.bool r) := by
  subst hr
  cases n with
  | zero => exact Ev.ifNilNeF hx Tryz.underlying39
  | succ n => exact Ev.ifNilNe (T := 58) (v := .int .i64 ((n + 1 : Nat) : Int)) hx Tryz.underlying39
theorem Ev.errEq {n : Nat} {r : Bool} (hx : e.val x = some (EV n)) (hr : decide (n = 0) = r := by rfl) : Ev Tryz.prog w e (.binOp .eql 39 x (.const .nilIface) t') ty (.bool r) := by
  subst hr
  cases n with
  | zero => exact Ev.ifNilEqT hx Tryz.underlying39
  | succ n => exact Ev.ifNilEq (T := 58) (v := .int .i64 ((n + 1 : Nat) : Int)) hx Tryz.underlying39
end
theorem EV_one (n : Nat) : (EV n).oneCell' = true := by cases n <;> rfl

set_option maxHeartbeats 2000000 in
theorem lay_spec [Strm] (s p fr count m dead m2 : Nat) (o2 : Obj) (st : St) (M laid : List Lf) (kvs : List KV) (A Bk : List (Nat × Obj)) (vk : Value) (hok : OkL M count) (hc : count ≤ 2000) (hsm0 : Sm M) (hfr : fr ≤ 1000000) (hsub : ∀ y ∈ laid, y ∈ M) (hll : laid.length ≤ 1000) (hQl : st.Q.length ≤ 1000)
    (w : World) (X : List (Nat × Obj)) (hs : (s, shO p fr count m dead) ∈ X) (hm2 : (m2, o2) ∈ X) (ho2 : Mp o2 kvs) (hkv : kvs.Perm (kvL M)) (hk : Slc gT 1 9 vk (laid.map Lf.key) Bk) (hB : ∀ q ∈ Bk, q ∈ X) (hA : HoldS p st A) (H : SL w (A ++ X)) :
    Does Tryz.prog 230 #[.pointer (some ⟨s, 0, none⟩), .map (some m2), vk] w fun r w' => ∃ A', r = EV (layM st fr count laid M).2 ∧ HoldS p (layM st fr count laid M).1 A' ∧ SL w' (A' ++ X) := by
  obtain ⟨ak, ck, rfl, hck⟩ := hk.leCap
  rw [List.length_map] at hck hk ⊢
  have hs' : ∀ {Q : List (Nat × Obj)}, (s, shO p fr count m dead) ∈ Q ++ X := List.mem_append_right _ hs
  refine Does.intro (args := [_, _, _]) (e := [(0, _), (1, _), (2, _)]) Tryz.func230 rfl Tryz.ntmps230 rfl rfl ?_
  refine .st ?_
  refine .st ?_
  refine RunsE.region ?_
  refine .au1 ?_
  refine .nil ?_
  refine .st ?_
  refine RunsE.region ?_
  refine .au1 ?_
  refine .ev (Ev.lenSl (d := 9) rfl rfl (by kernel_rfl)) rfl ?_
  refine .au1 ?_
  refine .nil ?_
  repeat refine RunsE.seq ?_
  refine RunsE.join (fun _ : Unit => [(0, .pointer (some ⟨s, 0, none⟩)), (1, .map (some m2)), (2, .slice ak laid.length ck)])
    (fun _ w => (writesM st fr laid).2 = 0 ∧ ∃ A, HoldS p (writesM st fr laid).1 A ∧ SL w (A ++ X)) (fun next => ?_) ?_
  · refine RunsE.block ?_
    refine RunsE.loop (fun i : Nat => [(0, .pointer (some ⟨s, 0, none⟩)), (1, .map (some m2)), (2, .slice ak laid.length ck), (12, .slice ak laid.length ck), (13, .int .i64 (laid.length : Int)), (14, .int .i64 (i : Int))])
      (fun i w => i ≤ laid.length ∧ (writesM st fr (laid.take i)).2 = 0 ∧ ∃ A, HoldS p (writesM st fr (laid.take i)).1 A ∧ SL w (A ++ X)) (fun i => laid.length - i) 0 ⟨rfl, rfl, rfl, rfl, rfl, rfl, trivial⟩ ⟨by omega, rfl, A, hA, H⟩ ?_
    clear H hA A
    rintro i w ⟨hi, h0, A, hA, H⟩ nextL
    by_cases h1 : i = laid.length
    ·
      refine .st ?_
      refine RunsE.region ?_
      refine .ev (Ev.lss (r := false) rfl rfl (decide_eq_false (by omega))) rfl ?_
      refine .nil ?_
      repeat refine RunsE.seq ?_
      refine RunsE.no rfl ?_
      refine RunsE.exit rfl ?_
      rw [h1, List.take_length] at h0 hA
      exact next () _ _ ⟨h0, A, hA, H⟩ ⟨rfl, rfl, rfl, trivial⟩
    · clear next
      have hil : i < laid.length := by omega
      obtain ⟨y, hy⟩ : ∃ y, y = laid.getD i lf0 := ⟨_, rfl⟩
      have hyl : y ∈ laid := by rw [hy]; exact getD_mem hil
      have hyM := hsub y hyl
      have hkeq : (laid.map Lf.key).getD i [] = y.key := by
        rw [hy]; simp [List.getD_eq_getElem?_getD, hil]
      have hfind : findL M y.key = some y := by
        have h2 := atK_kvL M y.key
        have h3 : atK (kvL M) y.key = some (leafV y) := (atK_mem (by rw [kvL_keys]; exact hok.srt.nodup)).2 (List.mem_map_of_mem (f := fun y : Lf => (y.key, leafV y)) hyM)
        rw [h3] at h2
        cases hf : findL M y.key with
        | none => rw [hf] at h2; cases h2
        | some z =>
          have hz := List.find?_some hf
          simp only [decide_eq_true_eq] at hz
          have hzm := List.mem_of_find?_eq_some hf
          rw [hf] at h2
          simp only [Option.map_some, Option.some.injEq] at h2
          rw [kv_inj (y := y) (z := z) (by rw [hz, h2])]
      have hpl := hok.rng y hyM
      have hfit := hok.fit y hyM
      have hpml := pageM_len y.key y.val
      have hsn := writes_snoc (y := y) h0
      have hts : laid.take (i + 1) = laid.take i ++ [y] := by rw [take_succD (d := lf0) hil, ← hy]
      rw [← hts] at hsn
      have hQi := writes_Qn (st := st) (fr := fr) (xs := laid.take i)
      rw [List.length_take] at hQi
      obtain ⟨bk, rfl, hrk⟩ := hk.strAt (L := X) (i := i) (by rw [List.length_map]; exact hil)
      rw [hkeq] at hrk
      have hrk' : ∀ {Q : List (Nat × Obj)}, Rd (Q ++ X) ⟨bk, 0 + i, none⟩ (sV y.key) := fun {Q} => hrk.sub fun q hq => by
        rcases List.mem_append.1 hq with h | h
        · exact List.mem_append_right _ (hB q h)
        · exact List.mem_append_right _ h
      refine .st ?_
      refine RunsE.region ?_
      refine .ev (Ev.lss (r := true) rfl rfl (decide_eq_true (by omega))) rfl ?_
      refine .nil ?_
      refine .st ?_
      refine .st ?_
      refine RunsE.region ?_
      refine .ev (Ev.iaSl (n := 9) (sz := 1) (m := i) (o := 0 + i) rfl rfl rfl (by kernel_rfl) hil (by rw [Nat.mul_one])) rfl ?_
      refine .ev (Ev.load H rfl (by kernel_rfl) hrk') rfl ?_
      refine .au1 ?_
      refine .nil ?_
      refine .st ?_
      refine RunsE.drawS H [20] (by kernel_rfl) ?_; (try clear H); intro w H
      refine .tk 0 rfl H (fun w H => Ev.move rfl) ?_
      refine .tk 1 rfl H (fun w H => Ev.nilCheck rfl) ?_
      refine .tk 2 rfl H (fun w H => Ev.fieldAddr (o := 0) rfl (by kernel_rfl)) ?_
      refine .tk 3 rfl H (fun w H => Ev.load H rfl (by kernel_rfl) (Rd.mk hs' rfl)) ?_
      refine .tk 4 rfl H (fun w H => Ev.move rfl) ?_
      refine .tk 5 rfl H (fun w H => Ev.nilCheck rfl) ?_
      refine .tk 6 rfl H (fun w H => Ev.fieldAddr (o := 1) rfl (by kernel_rfl)) ?_
      refine .tk 7 rfl H (fun w H => Ev.fieldAddr (o := 0) rfl (by kernel_rfl)) ?_
      refine .tk 8 rfl H (fun w H => Ev.load H rfl (by kernel_rfl) (Rd.mk hs' rfl)) ?_
      refine .tk 9 rfl H (fun w H => Ev.move rfl) ?_
      refine .tk 10 rfl H (fun w H => Ev.move rfl) ?_
      refine .tk 11 rfl H (fun w H => Ev.lookLf1 H rfl rfl (List.mem_append_right _ hm2) ho2 hkv) ?_
      refine .tk 12 rfl H (fun w H => Ev.field (ft := 3) (o := 0) (u := .int .i64 (y.place : Int)) rfl (by kernel_rfl) (by kernel_rfl) (by rw [hfind]; rfl)) ?_
      refine .tk 13 rfl H (fun w H => Ev.add (c := ((fr + y.place : Nat) : Int)) rfl rfl (by rw [qi64 (by omega) (by omega)]; omega)) ?_
      refine .tk 14 rfl H (fun w H => Ev.move rfl) ?_
      refine .tk 15 rfl H (fun w H => Ev.move rfl) ?_
      refine .tk 16 rfl H (fun w H => Ev.move rfl) ?_
      refine .tk 17 rfl H (fun w H => Ev.lookLf1 H rfl rfl (List.mem_append_right _ hm2) ho2 hkv) ?_
      refine .tk 18 rfl H (fun w H => Ev.field (ft := 9) (o := 1) (u := sV y.val) rfl (by kernel_rfl) (by kernel_rfl) (by rw [hfind]; rfl)) ?_
      refine OpsD.one 19 (by kernel_rfl) (StepD.ex rfl (Ex.call rfl Tryz.call227 (page_spec y.key y.val (by omega) (by omega) w _ H)) rfl ?_); (try clear H); rintro vp w ⟨Bp, hsp, H⟩; refine ⟨(by first | exact H | exact H.drop | exact H.drop.drop | exact H.dropL | exact H.drop.dropL | exact H.dropL.drop | exact H.dropL.dropL | exact H.dropMid | exact H.dropL.dropL.dropL | exact H.dropL.dropL.dropL.dropL), ?_⟩
      refine OpsD.one 20 (by kernel_rfl) (StepD.exT rfl rfl (Ex.call rfl Tryz.call293 (write_spec _ ((fr + y.place : Nat) : Int) (pageM y.key y.val) vp p A (by omega) (by omega) w _ hA hsp.inp H.swapL)) rfl ?_); (try clear H); rintro _ w ⟨A, rfl, hA, H⟩
      refine .tu 21 rfl (fun w => Ev.assign rfl) ?_
      refine OpsD.done (by kernel_rfl) ?_
      replace H := H.dropIn
      rw [← hsn] at hA ⊢
      refine .st ?_
      refine RunsE.region ?_
      refine .au1 ?_
      refine .ev (Ev.errNe rfl rfl) rfl ?_
      refine .nil ?_
      by_cases h3 : (writesM st fr (laid.take (i + 1))).2 = 0
      · repeat refine RunsE.seq ?_
        refine RunsE.no (by rw [h3]; rfl) ?_
        refine .st ?_
        refine RunsE.region ?_
        refine .ev (Ev.add rfl rfl) rfl ?_
        refine .au1 ?_
        refine .nil ?_
        exact nextL (i + 1) _ _ (by omega) ⟨by omega, h3, A, hA, H⟩ ⟨rfl, rfl, rfl, rfl, rfl, rfl, trivial⟩
      · repeat refine RunsE.seq ?_
        refine RunsE.yes (congrArg (fun b => some (Value.bool b)) (decide_eq_true h3)) ?_
        have hst := writes_stop (ys := laid.drop (i + 1)) h3
        rw [List.take_append_drop] at hst
        rw [← hst] at hA h3 ⊢
        refine .st ?_
        refine RunsE.region ?_
        refine .au2 ?_
        refine .nil ?_
        refine .st ?_
        have e1 : layM st fr count laid M = writesM st fr laid := by unfold layM; rw [if_pos h3]
        rw [e1]
        exact RunsE.ret1 Tryz.func230 rfl rfl ⟨A, rfl, hA, H⟩
  clear H hA A
  rintro _ w ⟨h0, A, hA, H⟩
  have hQi := writes_Qn (st := st) (fr := fr) (xs := laid)
  obtain ⟨s2, hs2⟩ : ∃ s2, s2 = (if laid = [] then ((writesM st fr laid).1, 0) else (writesM st fr laid).1.sync) := ⟨_, rfl⟩
  have hQ2 : s2.1.Q.length ≤ 2000 := by
    rw [hs2]
    split
    · simp only; omega
    · have := sync_Qn (writesM st fr laid).1; omega
  refine .st ?_
  refine RunsE.region ?_
  refine .au1 ?_
  refine .ev (Ev.lenSl (d := 9) rfl rfl (by kernel_rfl)) rfl ?_
  refine .ev (Ev.gtr rfl rfl) rfl ?_
  refine .nil ?_
  repeat refine RunsE.seq ?_
  refine RunsE.join (fun _ : Unit => [(0, .pointer (some ⟨s, 0, none⟩)), (1, .map (some m2))])
    (fun _ w => s2.2 = 0 ∧ ∃ A, HoldS p s2.1 A ∧ SL w (A ++ X)) (fun next => ?_) ?_
  · by_cases h1 : laid = []
    · rw [if_pos h1] at hs2
      repeat refine RunsE.seq ?_
      refine RunsE.no (by rw [h1]; rfl) ?_
      refine RunsE.skip ?_
      exact next () _ _ ⟨by rw [hs2], A, by rw [hs2]; exact hA, H⟩ ⟨rfl, rfl, trivial⟩
    · rw [if_neg h1] at hs2
      have hpos : 0 < laid.length := List.length_pos_iff.2 h1
      repeat refine RunsE.seq ?_
      refine RunsE.yes (congrArg (fun b => some (Value.bool b)) (decide_eq_true (by omega))) ?_
      refine .st ?_
      refine RunsE.region ?_
      refine .au1 ?_
      refine .ev (Ev.nilCheck rfl) rfl ?_
      refine .ev (Ev.fieldAddr (o := 0) rfl (by kernel_rfl)) rfl ?_
      refine .ev (Ev.load H rfl (by kernel_rfl) (Rd.mk hs' rfl)) rfl ?_
      refine .ex (Ex.call rfl Tryz.call294 (sync_spec _ p A (by omega) w _ hA H)) rfl ?_; (try clear H); rintro _ w ⟨A, rfl, hA, H⟩
      refine .au1 ?_
      refine .nil ?_
      rw [← hs2] at hA ⊢
      refine .st ?_
      refine RunsE.region ?_
      refine .au1 ?_
      refine .ev (Ev.errNe rfl rfl) rfl ?_
      refine .nil ?_
      by_cases h3 : s2.2 = 0
      · repeat refine RunsE.seq ?_
        refine RunsE.no (by rw [h3]; rfl) ?_
        refine RunsE.skip ?_
        exact next () _ _ ⟨h3, A, hA, H⟩ ⟨rfl, rfl, trivial⟩
      · repeat refine RunsE.seq ?_
        refine RunsE.yes (congrArg (fun b => some (Value.bool b)) (decide_eq_true h3)) ?_
        refine .st ?_
        refine RunsE.region ?_
        refine .au2 ?_
        refine .nil ?_
        refine .st ?_
        have e1 : layM st fr count laid M = s2 := by
          have h4 : (if laid = [] then ((writesM st fr laid).1, 0) else (writesM st fr laid).1.sync) = s2 := by rw [if_neg h1]; exact hs2.symm
          unfold layM
          rw [if_neg (by rw [h0]; decide), h4, if_pos h3]
        rw [e1]
        exact RunsE.ret1 Tryz.func230 rfl rfl ⟨A, rfl, hA, H⟩
  clear H hA A
  rintro _ w ⟨h2, A, hA, H⟩
  have hrl := (root_len hok).2
  have hMl := (free_len hok).2
  obtain ⟨s3, hs3⟩ : ∃ s3, s3 = s2.1.write (fr : Int) (rootM M count) := ⟨_, rfl⟩
  have hQ3 : s3.1.Q.length ≤ 3000 := by rw [hs3]; have := write_Qn s2.1 (fr : Int) (rootM M count); omega
  have hlay : layM st fr count laid M = if s3.2 ≠ 0 then s3 else s3.1.sync := by
    unfold layM
    rw [if_neg (by rw [h0]; decide), ← hs2, if_neg (by rw [h2]; decide), ← hs3]
  rw [hlay]
  refine .st ?_
  refine RunsE.drawS H [11] (by kernel_rfl) ?_; (try clear H); intro w H
  refine .tk 0 rfl H (fun w H => Ev.move rfl) ?_
  refine .tk 1 rfl H (fun w H => Ev.nilCheck rfl) ?_
  refine .tk 2 rfl H (fun w H => Ev.fieldAddr (o := 0) rfl (by kernel_rfl)) ?_
  refine .tk 3 rfl H (fun w H => Ev.load H rfl (by kernel_rfl) (Rd.mk hs' rfl)) ?_
  refine .tk 4 rfl H (fun w H => Ev.move rfl) ?_
  refine .tk 5 rfl H (fun w H => Ev.nilCheck rfl) ?_
  refine .tk 6 rfl H (fun w H => Ev.fieldAddr (o := 1) rfl (by kernel_rfl)) ?_
  refine .tk 7 rfl H (fun w H => Ev.fieldAddr (o := 0) rfl (by kernel_rfl)) ?_
  refine .tk 8 rfl H (fun w H => Ev.load H rfl (by kernel_rfl) (Rd.mk hs' rfl)) ?_
  refine .tk 9 rfl H (fun w H => Ev.move rfl) ?_
  refine OpsD.one 10 (by kernel_rfl) (StepD.ex rfl (Ex.call rfl Tryz.call295 (root_spec m2 count o2 M hok (by omega) hsm0 kvs hkv w _ (List.mem_append_right _ hm2) ho2 H)) rfl ?_); (try clear H); rintro vr w ⟨Br, hsr, H⟩; refine ⟨(by first | exact H | exact H.drop | exact H.drop.drop | exact H.dropL | exact H.drop.dropL | exact H.dropL.drop | exact H.dropL.dropL | exact H.dropMid | exact H.dropL.dropL.dropL | exact H.dropL.dropL.dropL.dropL), ?_⟩
  refine OpsD.one 11 (by kernel_rfl) (StepD.exT rfl rfl (Ex.call rfl Tryz.call293 (write_spec _ (fr : Int) (rootM M count) vr p A (by omega) (by omega) w _ hA hsr.inp H.swapL)) rfl ?_); (try clear H); rintro _ w ⟨A, rfl, hA, H⟩
  refine .tu 12 rfl (fun w => Ev.assign rfl) ?_
  refine OpsD.done (by kernel_rfl) ?_
  replace H := H.dropIn
  rw [← hs3] at hA ⊢
  refine .st ?_
  refine RunsE.region ?_
  refine .au1 ?_
  refine .ev (Ev.errNe rfl rfl) rfl ?_
  refine .nil ?_
  by_cases h3 : s3.2 = 0
  · repeat refine RunsE.seq ?_
    refine RunsE.no (by rw [h3]; rfl) ?_
    rw [if_neg (by rw [h3]; decide)]
    refine .st ?_
    refine RunsE.region ?_
    refine .au1 ?_
    refine .ev (Ev.nilCheck rfl) rfl ?_
    refine .ev (Ev.fieldAddr (o := 0) rfl (by kernel_rfl)) rfl ?_
    refine .ev (Ev.load H rfl (by kernel_rfl) (Rd.mk hs' rfl)) rfl ?_
    refine .ex (Ex.call rfl Tryz.call294 (sync_spec _ p A (by omega) w _ hA H)) rfl ?_; (try clear H); rintro _ w ⟨A, rfl, hA, H⟩
    refine .au1 ?_
    refine .nil ?_
    refine .st ?_
    exact RunsE.ret1 Tryz.func230 rfl rfl ⟨A, rfl, hA, H⟩
  · repeat refine RunsE.seq ?_
    refine RunsE.yes (congrArg (fun b => some (Value.bool b)) (decide_eq_true h3)) ?_
    rw [if_pos h3]
    refine .st ?_
    refine RunsE.region ?_
    refine .au2 ?_
    refine .nil ?_
    refine .st ?_
    exact RunsE.ret1 Tryz.func230 rfl rfl ⟨A, rfl, hA, H⟩

end Go.Proofs.YtdppnaahdilkcaaGreatDoor
end

section
/-
  The shelf, walked: Set.
-/
namespace Go.Proofs.YtdppnaahdilkcaaGreatDoor.V

theorem findC {ch : List Ch} (hn : (ch.map Ch.key).Nodup) {x : Ch} (hx : x ∈ ch) : (ch.find? fun y => decide (y.key = x.key)) = some x := by
  induction ch with
  | nil => cases hx
  | cons a r ih =>
    rw [List.map_cons, List.nodup_cons] at hn
    rw [List.find?_cons]
    rcases List.mem_cons.1 hx with rfl | hx
    · simp
    · have : a.key ≠ x.key := fun h => hn.1 (by rw [h]; exact List.mem_map_of_mem (f := Ch.key) hx)
      simp [this, ih hn.2 hx]

theorem lays_eq {ch : List Ch} (hn : (ch.map Ch.key).Nodup) : ((ch.map Ch.key).filter fun k => !((ch.find? fun y => decide (y.key = k)).getD ch0).gone) = (ch.filter fun x => !x.gone).map Ch.key := by
  rw [List.filter_map]
  congr 1
  apply List.filter_congr
  intro x hx
  simp only [Function.comp]
  rw [findC hn hx]
  rfl

theorem laid_at : ∀ {ch : List Ch} {fr : List Nat} {i : Nat} {x : Ch}, (ch.filter fun x => !x.gone)[i]? = some x → (laidM ch fr)[i]? = some ⟨x.key, x.val, fr.getD i 0⟩
  | [], _, _, _, h => by simp at h
  | a :: r, fr, i, x, h => by
    unfold laidM
    rw [List.filter_cons] at h
    cases hg : a.gone with
    | true =>
      rw [hg] at h
      simp only [Bool.not_true, Bool.false_eq_true, if_false] at h
      simp only [if_true]
      exact laid_at h
    | false =>
      rw [hg] at h
      simp only [Bool.not_false, if_true] at h
      simp only [Bool.false_eq_true, if_false]
      cases i with
      | zero =>
        simp only [List.getElem?_cons_zero, Option.some.injEq] at h ⊢
        subst h
        cases fr <;> rfl
      | succ i =>
        simp only [List.getElem?_cons_succ] at h ⊢
        rw [laid_at h]
        cases fr <;> simp

theorem putAll_snoc (kvs : List KV) (xs : List Lf) (y : Lf) : putAll kvs (xs ++ [y]) = putK (putAll kvs xs) y.key (leafV y) := by simp [putAll, List.foldl_append]
theorem delAll_snoc (kvs : List KV) (ks : List (List UInt8)) (k : List UInt8) : delAll kvs (ks ++ [k]) = delK (delAll kvs ks) k := by simp [delAll, List.foldl_append]

/-- What Set does: the store, the leaves, the shelf's error, what is answered. -/
def setP (st : St) (fr count : Nat) (l : List Lf) (dead : Nat) (cs : List Ch) : St × List Lf × Nat × Nat :=
  if dead ≠ 0 then (st, l, dead, dead)
  else if (setM l count cs).2.2.2 ≠ 0 then (st, l, 0, (setM l count cs).2.2.2)
  else if changesM l cs = [] then (st, l, 0, 0)
  else ((layM st fr count (laidM (changesM l cs) (freeM l count)) (applyM l (changesM l cs) (freeM l count))).1,
    if (layM st fr count (laidM (changesM l cs) (freeM l count)) (applyM l (changesM l cs) (freeM l count))).2 = 0 then applyM l (changesM l cs) (freeM l count) else l,
    (layM st fr count (laidM (changesM l cs) (freeM l count)) (applyM l (changesM l cs) (freeM l count))).2, (layM st fr count (laidM (changesM l cs) (freeM l count)) (applyM l (changesM l cs) (freeM l count))).2)

end Go.Proofs.YtdppnaahdilkcaaGreatDoor.V
namespace Go.Proofs.YtdppnaahdilkcaaGreatDoor
open Go.Proofs.YtdppnaahdilkcaaGreatDoor.V

theorem set1_spec [Strm] (b5 mc : Nat) (oc : Obj) (ch : List Ch) (k : List UInt8) (w : World) (X : List (Nat × Obj)) (hb : Rd X ⟨b5, 0, none⟩ (.map (some mc))) (hm : (mc, oc) ∈ X) (ho : Mp oc (kvC ch)) (H : SL w X) :
    Does Tryz.prog 226 #[sV k, .pointer (some ⟨b5, 0, none⟩)] w fun r w' => r = .bool ((ch.find? fun y => decide (y.key = k)).getD ch0).gone ∧ SL w' X := by
  refine Does.intro (args := [_, _]) (e := [(0, _), (1, _)]) Tryz.func226 rfl Tryz.ntmps226 rfl rfl ?_
  refine .st ?_
  refine .st ?_
  refine RunsE.region ?_
  refine .au1 ?_
  refine .nil ?_
  refine .st ?_
  refine RunsE.region ?_
  refine .ev (Ev.load H rfl (by kernel_rfl) hb) rfl ?_
  refine .au1 ?_
  refine .ev (Ev.lookCh1 H rfl rfl hm ho (.refl _)) rfl ?_
  refine .ev (Ev.field (ft := 4) (o := 2) (u := .bool ((ch.find? fun y => decide (y.key = k)).getD ch0).gone) rfl (by kernel_rfl) (by kernel_rfl) rfl) rfl ?_
  refine .au1 ?_
  refine .nil ?_
  refine .st ?_
  exact RunsE.ret1 Tryz.func226 rfl rfl ⟨rfl, H⟩

theorem nset_spec [Strm] (v : Value) (w : World) (F : List (Nat × Obj)) (H : SL w F) : Does Tryz.prog 173 #[.pointer none, v] w fun r w' => r = EV 1 ∧ SL w' F := by
  refine Does.intro (args := [_, _]) (e := [(0, _), (1, _)]) Tryz.func173 rfl Tryz.ntmps173 rfl rfl ?_
  refine .st ?_
  refine .st ?_
  refine RunsE.region ?_
  refine .au1 ?_
  refine .nil ?_
  refine .st ?_
  refine RunsE.region ?_
  refine .au1 ?_
  refine .ev (Ev.ptrNilEq (el := 344) rfl rfl (by kernel_rfl)) rfl ?_
  refine .au1 ?_
  refine .nil ?_
  refine .st ?_
  refine .st ?_
  refine RunsE.region ?_
  refine .ev (Ev.makeInterface (d := (.int .i64)) rfl (by kernel_rfl) rfl) rfl ?_
  refine .au1 ?_
  refine .nil ?_
  refine .st ?_
  exact RunsE.ret1 Tryz.func173 rfl rfl ⟨rfl, H⟩

set_option maxHeartbeats 4000000 in
theorem set_spec [Strm] (s p fr count m dead : Nat) (o : Obj) (st : St) (l : List Lf) (cs : List Ch) (v : Value) (A : List (Nat × Obj)) (hok : OkL l count) (hc1 : 1 ≤ count) (hc : count ≤ 2000) (hsm0 : Sm (applyM l (changesM l cs) (freeM l count))) (hfr : fr ≤ 1000000) (hQl : st.Q.length ≤ 1000) (hcl : cs.length ≤ 100)
    (hcs : ∀ c ∈ cs, c.key.length ≤ 100000 ∧ c.val.length ≤ 100000) (w : World) (X : List (Nat × Obj)) (hv : ElsA 3 (ChAt X) v cs) (ho : Mp o (kvL l)) (hA : HoldS p st A) (H : SL w ((s, shO p fr count m dead) :: (m, o) :: (A ++ X))) :
    Does Tryz.prog 173 #[.pointer (some ⟨s, 0, none⟩), v] w fun r w' => ∃ m' o' A', r = EV (setP st fr count l dead cs).2.2.2 ∧ Mp o' (kvL (setP st fr count l dead cs).2.1) ∧ HoldS p (setP st fr count l dead cs).1 A' ∧
      SL w' ((s, shO p fr count m' (setP st fr count l dead cs).2.2.1) :: (m', o') :: (A' ++ X)) := by
  have hv0 := hv
  obtain ⟨av, cv, rfl, hcv⟩ := hv.len
  have hfl := free_len hok
  have hchS := changes_sorted l cs
  have hchl := changes_len l cs
  have hchb : ∀ c ∈ changesM l cs, c.key.length ≤ 100000 ∧ c.val.length ≤ 100000 := fun c h => hcs c (changes_sub h)
  have hset : setM l count cs = setM l count cs := rfl
  conv at hset => rhs; unfold setM
  have hP : setP st fr count l dead cs = setP st fr count l dead cs := rfl
  conv at hP => rhs; unfold setP
  rw [hset] at hP
  clear hset
  obtain ⟨R, hR⟩ : ∃ R, R = setP st fr count l dead cs := ⟨_, rfl⟩
  rw [← hR] at hP ⊢
  clear hR
  refine Does.intro (args := [_, _]) (e := [(0, _), (1, _)]) Tryz.func173 rfl Tryz.ntmps173 rfl rfl ?_
  refine .st ?_
  refine .st ?_
  refine RunsE.region ?_
  refine .au1 ?_
  refine .nil ?_
  repeat refine RunsE.seq ?_
  refine RunsE.join (fun _ : Unit => [(0, .pointer (some ⟨s, 0, none⟩)), (1, .slice av cs.length cv)])
    (fun _ w => dead = 0 ∧ SL w ((s, shO p fr count m dead) :: (m, o) :: (A ++ X))) (fun next => ?_) ?_
  ·
    refine .st ?_
    refine RunsE.region ?_
    refine .au1 ?_
    refine .ev (Ev.ptrNilEq (el := 344) rfl rfl (by kernel_rfl)) rfl ?_
    refine .au1 ?_
    refine .nil ?_
    refine .st ?_
    refine .st ?_
    refine RunsE.region ?_
    refine .au1 ?_
    refine .ev (Ev.nilCheck rfl) rfl ?_
    refine .ev (Ev.fieldAddr (o := 4) rfl (by kernel_rfl)) rfl ?_
    refine .ev (Ev.ld H) rfl ?_
    refine .ev (Ev.errNe rfl rfl) rfl ?_
    refine .au1 ?_
    refine .nil ?_
    by_cases hd : dead = 0
    · repeat refine RunsE.seq ?_
      refine RunsE.no (by rw [hd]; rfl) ?_
      refine RunsE.skip ?_
      refine RunsE.inBlock ?_
      exact next () _ _ ⟨hd, H⟩ ⟨rfl, rfl, trivial⟩
    · repeat refine RunsE.seq ?_
      refine RunsE.yes (congrArg (fun b => some (Value.bool b)) (decide_eq_true hd)) ?_
      rw [if_pos hd] at hP
      refine .st ?_
      refine RunsE.region ?_
      refine .au1 ?_
      refine .ev (Ev.nilCheck rfl) rfl ?_
      refine .ev (Ev.fieldAddr (o := 4) rfl (by kernel_rfl)) rfl ?_
      refine .ev (Ev.ld H) rfl ?_
      refine .au1 ?_
      refine .nil ?_
      refine .st ?_
      rw [hP]
      exact RunsE.ret1 Tryz.func173 rfl rfl ⟨m, o, A, rfl, ho, hA, H⟩
  clear H
  rintro _ w ⟨rfl, H⟩
  rw [if_neg (by simp)] at hP
  obtain ⟨Y, hY⟩ : ∃ Y, Y = (s, shO p fr count m 0) :: (m, o) :: (A ++ X) := ⟨_, rfl⟩
  have hsY : (s, shO p fr count m 0) ∈ Y := by rw [hY]; exact .head _
  have hmY : (m, o) ∈ Y := by rw [hY]; exact .tail _ (.head _)
  have hXY : ∀ q ∈ X, q ∈ Y := fun q hq => by rw [hY]; exact .tail _ (.tail _ (List.mem_append_right _ hq))
  rw [← hY] at H
  have hvY : ElsA 3 (ChAt Y) (.slice av cs.length cv) cs := hv.sub fun _ _ _ h => h.sub hXY
  refine .st ?_
  refine RunsE.region ?_
  refine .au2 ?_
  refine .ex (Ex.call rfl Tryz.call221 (changed_spec s p fr count m 0 o l cs _ w Y hvY (by omega) hsY hmY ho H)) rfl ?_; (try clear H); rintro _ w ⟨mc, oc, rfl, hoc, H⟩
  refine .ex (Ex.alloc (zv := .map none) H (by kernel_rfl)) rfl ?_; (try clear H); rintro _ w ⟨b5, rfl, H⟩; simp only [Value.cells] at H
  refine .exn (Ex.store1 H rfl rfl (by kernel_rfl) rfl u0 (by simp) (Thaw.zero _ _) rfl) ?_; (try clear H); intro _ w H
  refine .nil ?_
  generalize changesM l cs = ch at *
  have hchn := SrtC.nodup hchS
  have hks : (ch.map Ch.key).Pairwise fun a b => a < b := by rw [List.pairwise_map]; exact hchS
  refine .st ?_
  refine RunsE.region ?_
  refine .ev (Ev.ld H) rfl ?_
  refine .ex (Ex.call rfl Tryz.call223 (keysCh_spec mc w _ H)) rfl ?_; (try clear H); rintro _ w ⟨c, rfl, H⟩
  refine .ex (Ex.call rfl Tryz.call222 (sorted_spec _ c ((kvC ch).map (·.1)) (by rw [kvC_keys, List.length_map]; omega) _ w Tryz.call290 (fun X' hX => keysitCh_spec c mc oc (kvC ch) X' ((Rd.mk m0 rfl).sub hX) (hX _ (.tail _ (.tail _ (.head _)))) hoc) H)) rfl ?_; (try clear H); rintro v6 w ⟨ks, Bk, hp, _, hk6, H⟩
  refine .au1 ?_
  refine .nil ?_
  rw [kvC_keys] at hp
  rw [srtS_uniq hks hp] at hk6
  clear hp
  have h7b : ∀ {Q : List (Nat × Obj)}, Rd (Q ++ (Bk ++ ((c, .cells #[.map (some mc)] 345 (0, 0)) :: (b5, .cells #[.map (some mc)] 345 (0, 0)) :: (mc, oc) :: Y))) ⟨b5, 0, none⟩ (.map (some mc)) := fun {Q} => Rd.right (Rd.right (Rd.mk m1 rfl))
  have h7m : ∀ {Q : List (Nat × Obj)}, (mc, oc) ∈ (Q ++ (Bk ++ ((c, Obj.cells #[.map (some mc)] 345 (0, 0)) :: (b5, .cells #[.map (some mc)] 345 (0, 0)) :: (mc, oc) :: Y))) := fun {Q} => List.mem_append_right _ (List.mem_append_right _ (.tail _ (.tail _ (.head _))))
  refine .st ?_
  refine RunsE.region ?_
  refine .au1 ?_
  refine .ex (Ex.call rfl Tryz.call225 (cloneS_spec v6 _ (by rw [List.length_map]; omega) Bk w _ hk6 H)) rfl ?_; (try clear H); rintro v37 w ⟨Bc, hk37, H⟩
  refine .ev (Ev.makeFunc rfl rfl) rfl ?_
  refine .ex (Ex.call rfl Tryz.call224 (deleteF_spec v37 (ch.map Ch.key) (fun k => ((ch.find? fun y : Ch => decide (y.key = k)).getD ch0).gone) 226 #[.pointer (some ⟨b5, 0, none⟩)] (by rw [List.length_map]; omega) Bc w _ hk37 Tryz.call226 (fun k _ w B H => set1_spec b5 mc oc ch k w _ h7b h7m hoc H) H)) rfl ?_; (try clear H); rintro v7 w ⟨Bl, hk7, H⟩
  refine .au1 ?_
  refine .nil ?_
  rw [lays_eq hchn] at hk7
  obtain ⟨Pr, hPr⟩ : ∃ Pr, Pr = Bl ++ (Bk ++ [(c, .cells #[.map (some mc)] 345 (0, 0)), (b5, .cells #[.map (some mc)] 345 (0, 0)), (mc, oc)]) := ⟨_, rfl⟩
  replace H : SL w (Pr ++ Y) := by rw [hPr]; simpa using H
  have hPb : ∀ {Q R : List (Nat × Obj)}, Rd (Q ++ (Pr ++ R)) ⟨b5, 0, none⟩ (.map (some mc)) := fun {Q R} => by rw [hPr]; exact Rd.right (Rd.left (Rd.right (Rd.right (Rd.mk m1 rfl))))
  have hPm : (mc, oc) ∈ Pr := by rw [hPr]; exact List.mem_append_right _ (List.mem_append_right _ (.tail _ (.tail _ (.head _))))
  have hPl : ∀ q ∈ Bl, q ∈ Pr := fun q hq => by rw [hPr]; exact List.mem_append_left _ hq
  have hPk : ∀ q ∈ Bk, q ∈ Pr := fun q hq => by rw [hPr]; exact List.mem_append_right _ (List.mem_append_left _ hq)
  clear h7b h7m hPr hk37
  obtain ⟨ly, hly⟩ : ∃ ly, ly = ch.filter fun x => !x.gone := ⟨_, rfl⟩
  have hlyl : ly.length ≤ ch.length := by rw [hly]; exact List.length_filter_le _ _
  have hlym : ∀ x ∈ ly, x ∈ ch ∧ x.gone = false := fun x hx => by rw [hly] at hx; exact ⟨(List.mem_filter.1 hx).1, by simpa using (List.mem_filter.1 hx).2⟩
  rw [← hly] at hk7 hP
  obtain ⟨a6, c6, rfl, hc6⟩ := hk6.leCap
  obtain ⟨a7, c7, rfl, hc7⟩ := hk7.leCap
  rw [List.length_map] at hk6 hk7 hc6 hc7
  -- a key of the lays, or of all
  have hrd7 : ∀ {i : Nat}, i < ly.length → ∃ b, a7 = some ⟨b, 0, none⟩ ∧ ∀ {Q R : List (Nat × Obj)}, Rd (Q ++ (Pr ++ R)) ⟨b, 0 + i, none⟩ (sV (ly.getD i ch0).key) := fun {i} hi => by
    obtain ⟨b, e1, hr⟩ := hk7.strAt (L := []) (i := i) (by rw [List.length_map]; exact hi)
    have e2 : (ly.map Ch.key).getD i [] = (ly.getD i ch0).key := by simp [List.getD_eq_getElem?_getD, hi]
    rw [e2] at hr
    exact ⟨b, e1, fun {Q R} => hr.sub fun q hq => List.mem_append_right _ (List.mem_append_left _ (hPl q (by simpa using hq)))⟩
  have hrd6 : ∀ {i : Nat}, i < ch.length → ∃ b, a6 = some ⟨b, 0, none⟩ ∧ ∀ {Q R : List (Nat × Obj)}, Rd (Q ++ (Pr ++ R)) ⟨b, 0 + i, none⟩ (sV (ch.getD i ch0).key) := fun {i} hi => by
    obtain ⟨b, e1, hr⟩ := hk6.strAt (L := []) (i := i) (by rw [List.length_map]; exact hi)
    have e2 : (ch.map Ch.key).getD i [] = (ch.getD i ch0).key := by simp [List.getD_eq_getElem?_getD, hi]
    rw [e2] at hr
    exact ⟨b, e1, fun {Q R} => hr.sub fun q hq => List.mem_append_right _ (List.mem_append_left _ (hPk q (by simpa using hq)))⟩
  rw [List.length_map, List.length_map]
  refine .st ?_
  refine RunsE.region ?_
  refine .au1 ?_
  refine .ev (Ev.lenSl (d := 9) rfl rfl (by kernel_rfl)) rfl ?_
  refine .au1 ?_
  refine .nil ?_
  repeat refine RunsE.seq ?_
  refine RunsE.join (fun _ : Unit => [(0, .pointer (some ⟨s, 0, none⟩)), (5, .pointer (some ⟨b5, 0, none⟩)), (6, .slice a6 ch.length c6), (7, .slice a7 ly.length c7)])
    (fun _ w => (∀ x ∈ ly, ¬ 4096 < (pageM x.key x.val).length) ∧ SL w (Pr ++ Y)) (fun next => ?_) ?_
  · refine RunsE.block ?_
    refine RunsE.loop (fun i : Nat => [(0, .pointer (some ⟨s, 0, none⟩)), (5, .pointer (some ⟨b5, 0, none⟩)), (6, .slice a6 ch.length c6), (7, .slice a7 ly.length c7), (40, .slice a7 ly.length c7), (41, .int .i64 (ly.length : Int)), (42, .int .i64 (i : Int))])
      (fun i w => i ≤ ly.length ∧ (∀ x ∈ ly.take i, ¬ 4096 < (pageM x.key x.val).length) ∧ SL w (Pr ++ Y)) (fun i => ly.length - i) 0 ⟨rfl, rfl, rfl, rfl, rfl, rfl, rfl, trivial⟩ ⟨by omega, by simp, H⟩ ?_
    clear H
    rintro i w ⟨hi, hfit, H⟩ nextL
    by_cases h1 : i = ly.length
    ·
      refine .st ?_
      refine RunsE.region ?_
      refine .ev (Ev.lss (r := false) rfl rfl (decide_eq_false (by omega))) rfl ?_
      refine .nil ?_
      repeat refine RunsE.seq ?_
      refine RunsE.no rfl ?_
      refine RunsE.exit rfl ?_
      rw [h1, List.take_length] at hfit
      exact next () _ _ ⟨hfit, H⟩ ⟨rfl, rfl, rfl, rfl, trivial⟩
    · clear next
      have hil : i < ly.length := by omega
      obtain ⟨x, hx⟩ : ∃ x, x = ly.getD i ch0 := ⟨_, rfl⟩
      have hxl : x ∈ ly := by rw [hx]; exact getD_mem hil
      have hxb := hchb x (hlym x hxl).1
      have hfx := findC hchn (hlym x hxl).1
      obtain ⟨bk, rfl, hr⟩ := hrd7 hil
      rw [← hx] at hr
      refine .st ?_
      refine RunsE.region ?_
      refine .ev (Ev.lss (r := true) rfl rfl (decide_eq_true (by omega))) rfl ?_
      refine .nil ?_
      refine .st ?_
      refine .st ?_
      refine RunsE.region ?_
      refine .ev (Ev.iaSl (n := 9) (sz := 1) (m := i) (o := 0 + i) rfl rfl rfl (by kernel_rfl) hil (by rw [Nat.mul_one])) rfl ?_
      refine .ev (Ev.load H rfl (by kernel_rfl) (hr (Q := []))) rfl ?_
      refine .au1 ?_
      refine .nil ?_
      refine .st ?_
      refine RunsE.region ?_
      refine .au1 ?_
      refine .ev (Ev.load H rfl (by kernel_rfl) (hPb (Q := []))) rfl ?_
      refine .au1 ?_
      refine .ev (Ev.lookCh1 H rfl rfl (List.mem_append_left _ hPm) hoc (.refl _)) rfl ?_
      refine .ev (Ev.field (ft := 9) (o := 1) (u := sV x.val) rfl (by kernel_rfl) (by kernel_rfl) (by rw [hfx]; rfl)) rfl ?_
      refine .ex (Ex.call rfl Tryz.call227 (page_spec x.key x.val (by omega) (by omega) w _ H)) rfl ?_; (try clear H); rintro vp w ⟨Bp, hsp, H⟩; obtain ⟨ap, cp, rfl, _⟩ := hsp.leCap; replace H := H.dropL
      refine .ev (Ev.lenSl (d := 5) rfl rfl (by kernel_rfl)) rfl ?_
      refine .ev (Ev.gtr (r := decide (4096 < (pageM x.key x.val).length)) rfl rfl (by rw [Bool.eq_iff_iff, decide_eq_true_iff, decide_eq_true_iff]; omega)) rfl ?_
      refine .nil ?_
      by_cases h2 : 4096 < (pageM x.key x.val).length
      · repeat refine RunsE.seq ?_
        refine RunsE.yes (by rw [decide_eq_true h2]; rfl) ?_
        refine .st ?_
        refine RunsE.region ?_
        refine .ev (Ev.makeInterface (d := (.int .i64)) rfl (by kernel_rfl) rfl) rfl ?_
        refine .au1 ?_
        refine .nil ?_
        refine .st ?_
        have hany : (ly.any fun x => decide (4096 < (pageM x.key x.val).length)) = true := List.any_eq_true.2 ⟨x, hxl, decide_eq_true h2⟩
        rw [if_pos hany, if_pos (by simp)] at hP
        rw [hP]
        rw [hY] at H
        exact RunsE.ret1 Tryz.func173 rfl rfl ⟨m, o, A, rfl, ho, hA, H.dropL⟩
      · repeat refine RunsE.seq ?_
        refine RunsE.no (by rw [decide_eq_false h2]; rfl) ?_
        refine .st ?_
        refine RunsE.region ?_
        refine .ev (Ev.add rfl rfl) rfl ?_
        refine .au1 ?_
        refine .nil ?_
        refine nextL (i + 1) _ _ (by omega) ⟨by omega, ?_, H⟩ ⟨rfl, rfl, rfl, rfl, rfl, rfl, rfl, trivial⟩
        rw [take_succD (d := ch0) hil, ← hx]
        intro z hz
        rcases List.mem_append.1 hz with h | h
        · exact hfit z h
        · rw [List.mem_singleton] at h; rw [h]; exact h2
  clear H
  rintro _ w ⟨hfit, H⟩
  have hany : ¬ (ly.any fun x => decide (4096 < (pageM x.key x.val).length)) = true := by
    rw [List.any_eq_true]
    rintro ⟨x, hx, h⟩
    exact hfit x hx (of_decide_eq_true h)
  rw [if_neg hany] at hP
  refine .st ?_
  refine RunsE.region ?_
  refine .au1 ?_
  refine .ex (Ex.call rfl Tryz.call228 (free_spec s p fr count m 0 o l (by omega) (fun y hy => (hok.rng y hy).2) w _ (List.mem_append_right _ hsY) (List.mem_append_right _ hmY) ho H)) rfl ?_; (try clear H); rintro v10 w ⟨Bf, hkf, H⟩; obtain ⟨a10, c10, rfl, hc10⟩ := hkf.leCap
  refine .au1 ?_
  refine .nil ?_
  rw [List.length_map] at hkf hc10
  rw [List.length_map]
  by_cases h2 : count - 1 - l.length < ly.length
  ·
    refine .st ?_
    refine RunsE.region ?_
    refine .au1 ?_
    refine .ev (Ev.lenSl (d := 9) rfl rfl (by kernel_rfl)) rfl ?_
    refine .au1 ?_
    refine .ev (Ev.lenSl (d := 3) rfl rfl (by kernel_rfl)) rfl ?_
    refine .ev (Ev.gtr (r := true) rfl rfl (decide_eq_true (by omega))) rfl ?_
    refine .nil ?_
    refine .st ?_
    refine .st ?_
    refine RunsE.region ?_
    refine .ev (Ev.makeInterface (d := (.int .i64)) rfl (by kernel_rfl) rfl) rfl ?_
    refine .au1 ?_
    refine .nil ?_
    refine .st ?_
    rw [if_pos h2, if_pos (by simp)] at hP
    rw [hP]
    rw [hY] at H
    exact RunsE.ret1 Tryz.func173 rfl rfl ⟨m, o, A, rfl, ho, hA, H.dropL.dropL⟩
  rw [if_neg h2, if_neg (by simp)] at hP
  refine .st ?_
  refine RunsE.region ?_
  refine .au1 ?_
  refine .ev (Ev.lenSl (d := 9) rfl rfl (by kernel_rfl)) rfl ?_
  refine .au1 ?_
  refine .ev (Ev.lenSl (d := 3) rfl rfl (by kernel_rfl)) rfl ?_
  refine .ev (Ev.gtr (r := false) rfl rfl (decide_eq_false (by omega))) rfl ?_
  refine .nil ?_
  refine .st ?_
  by_cases h3 : ch = []
  · have h3l : ch.length = 0 := by rw [h3]; rfl
    refine .st ?_
    refine RunsE.region ?_
    refine .au1 ?_
    refine .ev (Ev.lenSl (d := 9) rfl rfl (by kernel_rfl)) rfl ?_
    refine .ev (Ev.eql (r := true) rfl rfl (beq_iff_eq.2 (by omega))) rfl ?_
    refine .nil ?_
    refine .st ?_
    refine .st ?_
    refine RunsE.region ?_
    refine .au1 ?_
    refine .nil ?_
    refine .st ?_
    rw [if_pos h3] at hP
    rw [hP]
    rw [hY] at H
    exact RunsE.ret1 Tryz.func173 rfl rfl ⟨m, o, A, rfl, ho, hA, H.dropL.dropL⟩
  have h3l : 0 < ch.length := List.length_pos_iff.2 h3
  rw [if_neg h3] at hP
  refine .st ?_
  refine RunsE.region ?_
  refine .au1 ?_
  refine .ev (Ev.lenSl (d := 9) rfl rfl (by kernel_rfl)) rfl ?_
  refine .ev (Ev.eql (r := false) rfl rfl (beq_eq_false_iff_ne.2 (by omega))) rfl ?_
  refine .nil ?_
  refine .st ?_
  have hle : ly.length ≤ (freeM l count).length := by omega
  have hM := apply_ok hok hchn (by rw [← hly]; exact hle) (fun x hx hg => Nat.le_of_not_lt (hfit x (by rw [hly]; exact List.mem_filter.2 ⟨hx, by rw [hg]; rfl⟩)))
  have hroads := roads (l := l) (fr := freeM l count) hchn
  have hperm := apply_perm ch l (freeM l count) hchn
  have hlaidk := laid_keys ch (freeM l count)
  have hlaidl := laid_len ch (freeM l count)
  have hlat : ∀ {i : Nat} {x : Ch}, ly[i]? = some x → (laidM ch (freeM l count))[i]? = some ⟨x.key, x.val, (freeM l count).getD i 0⟩ := fun {i x} h => by rw [hly] at h; exact laid_at h
  rw [← hly] at hlaidk hlaidl
  generalize laidM ch (freeM l count) = laid at *
  generalize applyM l ch (freeM l count) = M at *
  refine .st ?_
  refine RunsE.region ?_
  refine .au1 ?_
  refine .ev (Ev.nilCheck rfl) rfl ?_
  refine .ev (Ev.fieldAddr (o := 3) rfl (by kernel_rfl)) rfl ?_
  refine .ev (Ev.load H rfl (by kernel_rfl) (Rd.right (Rd.right (Rd.mk hsY rfl)))) rfl ?_
  refine .ex (Ex.call rfl Tryz.call229 (mclone_spec m o (kvL l) w _ (List.mem_append_right _ (List.mem_append_right _ hmY)) ho H)) rfl ?_; (try clear H); rintro _ w ⟨m2, o2, rfl, ho2, H⟩
  refine .au1 ?_
  refine .nil ?_
  refine .st ?_
  refine RunsE.region ?_
  refine .au1 ?_
  refine .ev (Ev.lenSl (d := 9) rfl rfl (by kernel_rfl)) rfl ?_
  refine .au1 ?_
  refine .nil ?_
  repeat refine RunsE.seq ?_
  refine RunsE.join (fun _ : Unit => [(0, .pointer (some ⟨s, 0, none⟩)), (5, .pointer (some ⟨b5, 0, none⟩)), (6, .slice a6 ch.length c6), (7, .slice a7 ly.length c7), (11, .map (some m2))])
    (fun _ w => ∃ o2, Mp o2 (putAll (kvL l) laid) ∧ SL w ((m2, o2) :: (Bf ++ (Pr ++ Y)))) (fun next => ?_) ?_
  · refine RunsE.block ?_
    refine RunsE.loop (fun i : Nat => [(0, .pointer (some ⟨s, 0, none⟩)), (5, .pointer (some ⟨b5, 0, none⟩)), (6, .slice a6 ch.length c6), (7, .slice a7 ly.length c7), (10, .slice a10 (freeM l count).length c10), (11, .map (some m2)), (72, .slice a7 ly.length c7), (73, .int .i64 (ly.length : Int)), (74, .int .i64 (i : Int))])
      (fun i w => i ≤ ly.length ∧ ∃ o2, Mp o2 (putAll (kvL l) (laid.take i)) ∧ SL w ((m2, o2) :: (Bf ++ (Pr ++ Y)))) (fun i => ly.length - i) 0 ⟨rfl, rfl, rfl, rfl, rfl, rfl, rfl, rfl, rfl, trivial⟩ ⟨by omega, o2, ho2, H⟩ ?_
    clear H ho2 o2
    rintro i w ⟨hi, o2, ho2, H⟩ nextL
    by_cases h1 : i = ly.length
    ·
      refine .st ?_
      refine RunsE.region ?_
      refine .ev (Ev.lss (r := false) rfl rfl (decide_eq_false (by omega))) rfl ?_
      refine .nil ?_
      repeat refine RunsE.seq ?_
      refine RunsE.no rfl ?_
      refine RunsE.exit rfl ?_
      rw [h1, ← hlaidl, List.take_length] at ho2
      exact next () _ _ ⟨o2, ho2, H⟩ ⟨rfl, rfl, rfl, rfl, rfl, trivial⟩
    · clear next
      have hil : i < ly.length := by omega
      obtain ⟨x, hx⟩ : ∃ x, x = ly.getD i ch0 := ⟨_, rfl⟩
      have hxl : x ∈ ly := by rw [hx]; exact getD_mem hil
      have hxi : ly[i]? = some x := by rw [hx]; simp [List.getD_eq_getElem?_getD, hil]
      have hfx := findC hchn (hlym x hxl).1
      have hla := hlat hxi
      obtain ⟨bk, rfl, hr⟩ := hrd7 hil
      rw [← hx] at hr
      obtain ⟨bf, cf, sp, frz, e1, e2, g2, g3, g4⟩ := hkf.shape (by rw [List.length_map]; omega)
      rw [List.length_map] at e1
      cases e1
      have hrf : ∀ {Q R : List (Nat × Obj)}, Rd (Q ++ (Bf ++ R)) ⟨bf, 0 + i, none⟩ (.int .i64 (((freeM l count).getD i 0 : Nat) : Int)) := fun {Q R} => by
        rw [e2]
        refine Rd.right (Rd.left (Rd.mk (.head _) ?_))
        have hif : i < (freeM l count).length := by omega
        rw [Nat.zero_add, List.getElem?_toArray, List.getElem?_append_left (by rw [flatMap_one]; simpa using hif), flatMap_one, List.getElem?_map, List.getElem?_map, List.getElem?_eq_getElem hif]
        simp [List.getD_eq_getElem?_getD, hif]
      refine .st ?_
      refine RunsE.region ?_
      refine .ev (Ev.lss (r := true) rfl rfl (decide_eq_true (by omega))) rfl ?_
      refine .nil ?_
      refine .st ?_
      refine .st ?_
      refine RunsE.region ?_
      refine .au1 ?_
      refine .ev (Ev.iaSl (n := 9) (sz := 1) (m := i) (o := 0 + i) rfl rfl rfl (by kernel_rfl) hil (by rw [Nat.mul_one])) rfl ?_
      refine .ev (Ev.load H rfl (by kernel_rfl) (hr (Q := (m2, o2) :: Bf))) rfl ?_
      refine .au2 ?_
      refine .nil ?_
      refine .st ?_
      refine RunsE.drawS H [11] (by kernel_rfl) ?_; (try clear H); intro w H
      refine .tk 0 rfl H (fun w H => Ev.move rfl) ?_
      refine .tk 1 rfl H (fun w H => Ev.move rfl) ?_
      refine .tk 2 rfl H (fun w H => Ev.move rfl) ?_
      refine .tk 3 rfl H (fun w H => Ev.move rfl) ?_
      refine .tk 4 rfl H (fun w H => Ev.iaSl (n := 3) (sz := 1) (m := i) (o := 0 + i) rfl rfl rfl (by kernel_rfl) (by omega) (by rw [Nat.mul_one])) ?_
      refine .tk 5 rfl H (fun w H => Ev.load H rfl (by kernel_rfl) (hrf (Q := [(m2, o2)]))) ?_
      refine .tk 6 rfl H (fun w H => Ev.load H rfl (by kernel_rfl) (hPb (Q := (m2, o2) :: Bf))) ?_
      refine .tk 7 rfl H (fun w H => Ev.move rfl) ?_
      refine .tk 8 rfl H (fun w H => Ev.lookCh1 H rfl rfl (.tail _ (List.mem_append_right _ (List.mem_append_left _ hPm))) hoc (.refl _)) ?_
      refine .tk 9 rfl H (fun w H => Ev.field (ft := 9) (o := 1) (u := sV x.val) rfl (by kernel_rfl) (by kernel_rfl) (by rw [hfx]; rfl)) ?_
      refine .tk 10 rfl H (fun w H => Ev.buildSt (pl := [(0, 1), (1, 1)]) (zv := .agg #[.int .i64 0, .string .empty]) rfl (by kernel_rfl) (by kernel_rfl) rfl) ?_
      refine OpsD.one 11 (by kernel_rfl) (StepD.exnT rfl rfl (Ex.mapUpdateS (M := fun o => (m2, o) :: (Bf ++ (Pr ++ Y))) (u := leafV ⟨x.key, x.val, (freeM l count).getD i 0⟩) H mapLf rfl rfl rfl (fun o' => .head) ho2) ?_); (try clear H); rintro _ w ⟨o2', ho2', H⟩
      refine OpsD.done (by kernel_rfl) ?_
      refine .st ?_
      refine RunsE.region ?_
      refine .ev (Ev.add rfl rfl) rfl ?_
      refine .au1 ?_
      refine .nil ?_
      refine nextL (i + 1) _ _ (by omega) ⟨by omega, o2', ?_, H⟩ ⟨rfl, rfl, rfl, rfl, rfl, rfl, rfl, rfl, rfl, trivial⟩
      have e3 : laid.take (i + 1) = laid.take i ++ [⟨x.key, x.val, (freeM l count).getD i 0⟩] := by rw [List.take_add_one, hla]; rfl
      rw [e3, putAll_snoc]
      exact ho2'
  clear H ho2 o2
  rintro _ w ⟨o2, ho2, H⟩
  refine .st ?_
  refine RunsE.region ?_
  refine .au1 ?_
  refine .ev (Ev.lenSl (d := 9) rfl rfl (by kernel_rfl)) rfl ?_
  refine .au1 ?_
  refine .nil ?_
  repeat refine RunsE.seq ?_
  refine RunsE.join (fun _ : Unit => [(0, .pointer (some ⟨s, 0, none⟩)), (7, .slice a7 ly.length c7), (11, .map (some m2))])
    (fun _ w => ∃ o2, Mp o2 (kvL M) ∧ SL w ((m2, o2) :: (Bf ++ (Pr ++ Y)))) (fun next => ?_) ?_
  · refine RunsE.block ?_
    refine RunsE.loop (fun i : Nat => [(0, .pointer (some ⟨s, 0, none⟩)), (5, .pointer (some ⟨b5, 0, none⟩)), (7, .slice a7 ly.length c7), (11, .map (some m2)), (91, .slice a6 ch.length c6), (92, .int .i64 (ch.length : Int)), (93, .int .i64 (i : Int))])
      (fun i w => i ≤ ch.length ∧ ∃ o2, Mp o2 (delAll (putAll (kvL l) laid) (((ch.take i).filter fun x => x.gone).map Ch.key)) ∧ SL w ((m2, o2) :: (Bf ++ (Pr ++ Y)))) (fun i => ch.length - i) 0 ⟨rfl, rfl, rfl, rfl, rfl, rfl, rfl, trivial⟩ ⟨by omega, o2, ho2, H⟩ ?_
    clear H ho2 o2
    rintro i w ⟨hi, o2, ho2, H⟩ nextL
    by_cases h1 : i = ch.length
    ·
      refine .st ?_
      refine RunsE.region ?_
      refine .ev (Ev.lss (r := false) rfl rfl (decide_eq_false (by omega))) rfl ?_
      refine .nil ?_
      repeat refine RunsE.seq ?_
      refine RunsE.no rfl ?_
      refine RunsE.exit rfl ?_
      rw [h1, List.take_length] at ho2
      exact next () _ _ ⟨o2, ho2.perm hroads, H⟩ ⟨rfl, rfl, rfl, trivial⟩
    · clear next
      have hil : i < ch.length := by omega
      obtain ⟨x, hx⟩ : ∃ x, x = ch.getD i ch0 := ⟨_, rfl⟩
      have hxl : x ∈ ch := by rw [hx]; exact getD_mem hil
      have hfx := findC hchn hxl
      have htk : ch.take (i + 1) = ch.take i ++ [x] := by rw [take_succD (d := ch0) hil, ← hx]
      obtain ⟨bk, rfl, hr⟩ := hrd6 hil
      rw [← hx] at hr
      refine .st ?_
      refine RunsE.region ?_
      refine .ev (Ev.lss (r := true) rfl rfl (decide_eq_true (by omega))) rfl ?_
      refine .nil ?_
      refine .st ?_
      refine .st ?_
      refine RunsE.region ?_
      refine .ev (Ev.iaSl (n := 9) (sz := 1) (m := i) (o := 0 + i) rfl rfl rfl (by kernel_rfl) hil (by rw [Nat.mul_one])) rfl ?_
      refine .ev (Ev.load H rfl (by kernel_rfl) (hr (Q := (m2, o2) :: Bf))) rfl ?_
      refine .au1 ?_
      refine .nil ?_
      refine .st ?_
      refine RunsE.region ?_
      refine .ev (Ev.load H rfl (by kernel_rfl) (hPb (Q := (m2, o2) :: Bf))) rfl ?_
      refine .au1 ?_
      refine .ev (Ev.lookCh1 H rfl rfl (.tail _ (List.mem_append_right _ (List.mem_append_left _ hPm))) hoc (.refl _)) rfl ?_
      refine .ev (Ev.field (ft := 4) (o := 2) (u := .bool x.gone) rfl (by kernel_rfl) (by kernel_rfl) (by rw [hfx]; rfl)) rfl ?_
      refine .nil ?_
      cases hg : x.gone with
      | true =>
        repeat refine RunsE.seq ?_
        refine RunsE.yes rfl ?_
        refine .st ?_
        refine RunsE.region ?_
        refine .au2 ?_
        refine .exn (Ex.deleteS (M := fun o => (m2, o) :: (Bf ++ (Pr ++ Y))) H mapLf rfl rfl (fun o' => .head) ho2) ?_; (try clear H); rintro _ w ⟨o2', ho2', H⟩
        refine .nil ?_
        refine .st ?_
        refine RunsE.region ?_
        refine .ev (Ev.add rfl rfl) rfl ?_
        refine .au1 ?_
        refine .nil ?_
        refine nextL (i + 1) _ _ (by omega) ⟨by omega, o2', ?_, H⟩ ⟨rfl, rfl, rfl, rfl, rfl, rfl, rfl, trivial⟩
        rw [htk, List.filter_append, List.map_append]
        have e3 : (([x].filter fun x => x.gone).map Ch.key) = [x.key] := by rw [List.filter_cons, if_pos hg]; rfl
        rw [e3, delAll_snoc]
        exact ho2'
      | false =>
        repeat refine RunsE.seq ?_
        refine RunsE.no rfl ?_
        refine .st ?_
        refine RunsE.region ?_
        refine .ev (Ev.add rfl rfl) rfl ?_
        refine .au1 ?_
        refine .nil ?_
        refine nextL (i + 1) _ _ (by omega) ⟨by omega, o2, ?_, H⟩ ⟨rfl, rfl, rfl, rfl, rfl, rfl, rfl, trivial⟩
        rw [htk, List.filter_append, List.map_append]
        have e3 : (([x].filter fun x => x.gone).map Ch.key) = [] := by rw [List.filter_cons, if_neg (by rw [hg]; decide)]; rfl
        rw [e3, List.append_nil]
        exact ho2
  clear H ho2 o2
  rintro _ w ⟨o2, ho2, H⟩
  replace H : SL w (A ++ ((m2, o2) :: (Bf ++ (Pr ++ ((s, shO p fr count m 0) :: (m, o) :: X))))) := by
    rw [hY] at H
    exact H.perm (perm_of fun a => by simp only [List.count_append, List.count_cons]; omega)
  rw [← hlaidk] at hk7
  have hll2 : laid.length ≤ 1000 := by omega
  have hsub2 : ∀ y ∈ laid, y ∈ M := fun y hy => hperm.symm.subset (List.mem_append_right _ hy)
  have hBl2 : ∀ q ∈ Bl, q ∈ (m2, o2) :: (Bf ++ (Pr ++ ((s, shO p fr count m 0) :: (m, o) :: X))) := fun q hq => .tail _ (List.mem_append_right _ (List.mem_append_left _ (hPl q hq)))
  have hs2 : (s, shO p fr count m 0) ∈ (m2, o2) :: (Bf ++ (Pr ++ ((s, shO p fr count m 0) :: (m, o) :: X))) := .tail _ (List.mem_append_right _ (List.mem_append_right _ (.head _)))
  rw [hP]
  generalize hrr : layM st fr count laid M = rr
  refine .st ?_
  refine RunsE.region ?_
  refine .au4 ?_
  refine .ex (Ex.call rfl Tryz.call230 (lay_spec s p fr count m 0 m2 o2 st M laid (kvL M) A Bl _ hM hc hsm0 hfr hsub2 hll2 (by omega) w _ hs2 (.head _) ho2 (.refl _) hk7 hBl2 hA H)) rfl ?_; (try clear H); rintro _ w ⟨A', rfl, hA', H⟩; rw [hrr] at hA'; replace H : SL w ((s, shO p fr count m 0) :: (m2, o2) :: (m, o) :: (A' ++ X)) := H.less (Bf ++ Pr) (perm_of fun a => by simp only [List.count_append, List.count_cons]; omega)
  refine .ev (Ev.nilCheck rfl) rfl ?_
  refine .ev (Ev.fieldAddr (o := 4) rfl (by kernel_rfl)) rfl ?_
  refine .exn (Ex.store1 H rfl rfl (by kernel_rfl) (EV_one _) u0 (by simp) (Thaw.zero _ _) rfl) ?_; (try clear H); intro _ w H; rw [hrr] at H
  refine .nil ?_
  refine .st ?_
  refine RunsE.region ?_
  refine .au1 ?_
  refine .ev (Ev.nilCheck rfl) rfl ?_
  refine .ev (Ev.fieldAddr (o := 4) rfl (by kernel_rfl)) rfl ?_
  refine .ev (Ev.load (v := EV rr.2) H rfl (by kernel_rfl) (Rd.mk m0 rfl)) rfl ?_
  refine .ev (Ev.errEq rfl rfl) rfl ?_
  refine .nil ?_
  by_cases h5 : rr.2 = 0
  · repeat refine RunsE.seq ?_
    refine RunsE.yes (by rw [h5]; rfl) ?_
    refine .st ?_
    refine RunsE.region ?_
    refine .au2 ?_
    refine .ev (Ev.nilCheck rfl) rfl ?_
    refine .ev (Ev.fieldAddr (o := 3) rfl (by kernel_rfl)) rfl ?_
    refine .exn (Ex.store1 H rfl rfl (by kernel_rfl) rfl u0 (by simp) (Thaw.zero _ _) rfl) ?_; (try clear H); intro _ w H
    refine .nil ?_
    refine .st ?_
    refine RunsE.region ?_
    refine .au1 ?_
    refine .ev (Ev.nilCheck rfl) rfl ?_
    refine .ev (Ev.fieldAddr (o := 4) rfl (by kernel_rfl)) rfl ?_
    refine .ev (Ev.load (v := EV rr.2) H rfl (by kernel_rfl) (Rd.mk m0 rfl)) rfl ?_
    refine .au1 ?_
    refine .nil ?_
    refine .st ?_
    simp only [if_pos h5]
    replace H : SL w ((s, shO p fr count m2 rr.2) :: (m2, o2) :: (m, o) :: (A' ++ X)) := H
    exact RunsE.ret1 Tryz.func173 rfl rfl ⟨m2, o2, A', rfl, ho2, hA', H.less [(m, o)] (perm_of fun a => by simp only [List.count_append, List.count_cons, List.count_nil]; omega)⟩
  · repeat refine RunsE.seq ?_
    refine RunsE.no (congrArg (fun b => some (Value.bool b)) (decide_eq_false h5)) ?_
    refine .st ?_
    refine RunsE.region ?_
    refine .au1 ?_
    refine .ev (Ev.nilCheck rfl) rfl ?_
    refine .ev (Ev.fieldAddr (o := 4) rfl (by kernel_rfl)) rfl ?_
    refine .ev (Ev.load (v := EV rr.2) H rfl (by kernel_rfl) (Rd.mk m0 rfl)) rfl ?_
    refine .au1 ?_
    refine .nil ?_
    refine .st ?_
    simp only [if_neg h5]
    exact RunsE.ret1 Tryz.func173 rfl rfl ⟨m, o, A', rfl, ho, hA', H.drop1⟩

end Go.Proofs.YtdppnaahdilkcaaGreatDoor
end
