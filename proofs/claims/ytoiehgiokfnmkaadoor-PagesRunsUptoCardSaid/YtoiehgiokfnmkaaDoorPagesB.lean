/-
  The store's functions that change it: settle, Write, Sync, Start; Contains.
-/
import Derived.Test.YtoiehgiokfnmkaaDoorPagesA
import Derived.Test.YtoiehgiokfnmkaaDoorVRows
namespace Go.Proofs.YtoiehgiokfnmkaaDoor
open Go.Proofs.YtoiehgiokfnmkaaDoor.V

theorem index_spec [Strm] (v : Value) (zs : List Int) (x : Int) (hl : zs.length ≤ 9223372036854775807) (w : World) (F : List (Nat × Obj)) (hv : IntsIn .i64 F v zs) (H : SL w F) :
    Does Tryd.prog 35 #[v, .int .i64 x] w fun r w' => (∃ n : Int, r = .int .i64 n ∧ decide (n ≥ 0) = zs.contains x) ∧ SL w' F := by
  obtain ⟨a, c, rfl, hc⟩ := hv.len
  refine Does.intro (args := [_, _]) (e := [(0, _), (1, _)]) Tryd.func35 rfl Tryd.ntmps35 rfl rfl ?_
  repeat (first | refine RunsE.seq ?_ | refine RunsE.skip ?_ | refine RunsE.block ?_ | refine RunsE.inBlock ?_ | refine RunsE.yes rfl ?_ | refine RunsE.no rfl ?_ | refine RunsE.exit rfl ?_)
  repeat (first | refine RunsE.seq ?_ | refine RunsE.skip ?_ | refine RunsE.block ?_ | refine RunsE.inBlock ?_ | refine RunsE.yes rfl ?_ | refine RunsE.no rfl ?_ | refine RunsE.exit rfl ?_)
  refine RunsE.region ?_
  refine OpsE.ev (Ev.assign rfl) rfl ?_
  refine OpsE.nil ?_
  repeat (first | refine RunsE.seq ?_ | refine RunsE.skip ?_ | refine RunsE.block ?_ | refine RunsE.inBlock ?_ | refine RunsE.yes rfl ?_ | refine RunsE.no rfl ?_ | refine RunsE.exit rfl ?_)
  refine RunsE.region ?_
  refine OpsE.ev (Ev.move rfl) rfl ?_
  refine OpsE.ev (Ev.lenSl (d := 3) rfl rfl (by kernel_rfl)) rfl ?_
  refine OpsE.ev (Ev.move rfl) rfl ?_
  refine OpsE.nil ?_
  repeat refine RunsE.seq ?_
  refine RunsE.join (fun _ : Unit => []) (fun _ w => SL w F ∧ zs.contains x = false) (fun next => ?_) ?_
  · refine RunsE.block ?_
    refine RunsE.loop (fun i : Nat => [(0, .slice a zs.length c), (1, .int .i64 x), (7, .int .i64 (zs.length : Int)), (8, .int .i64 (i : Int))])
      (fun i w => i ≤ zs.length ∧ SL w F ∧ ∀ j, j < i → zs[j]? ≠ some x) (fun i => zs.length - i) 0 ⟨rfl, rfl, rfl, rfl, trivial⟩ ⟨by omega, H, fun j h => by omega⟩ ?_
    clear H
    rintro i w ⟨hi, H, hn⟩ nextL
    by_cases h1 : i = zs.length
    ·
      repeat (first | refine RunsE.seq ?_ | refine RunsE.skip ?_ | refine RunsE.block ?_ | refine RunsE.inBlock ?_ | refine RunsE.yes rfl ?_ | refine RunsE.no rfl ?_ | refine RunsE.exit rfl ?_)
      refine RunsE.region ?_
      refine OpsE.ev (Ev.lss (r := false) rfl rfl (decide_eq_false (by omega))) rfl ?_
      refine OpsE.nil ?_
      repeat refine RunsE.seq ?_
      refine RunsE.no rfl ?_
      refine RunsE.exit rfl ?_
      refine next () _ _ ⟨H, ?_⟩ trivial
      rw [Bool.eq_false_iff]
      intro hm
      rw [List.contains_iff_mem] at hm
      obtain ⟨j, hj⟩ := List.getElem?_of_mem hm
      refine hn j ?_ hj
      rcases Nat.lt_or_ge j zs.length with h | h
      · omega
      · rw [List.getElem?_eq_none h] at hj; cases hj
    · clear next
      obtain ⟨z, hz⟩ : ∃ z, zs[i]? = some z := ⟨zs[i]'(by omega), by simp [show i < zs.length by omega]⟩
      obtain ⟨b, off, u, rfl, hrd, rfl, _⟩ := hv.at hz
      repeat (first | refine RunsE.seq ?_ | refine RunsE.skip ?_ | refine RunsE.block ?_ | refine RunsE.inBlock ?_ | refine RunsE.yes rfl ?_ | refine RunsE.no rfl ?_ | refine RunsE.exit rfl ?_)
      refine RunsE.region ?_
      refine OpsE.ev (Ev.lss (r := true) rfl rfl (decide_eq_true (by omega))) rfl ?_
      refine OpsE.nil ?_
      repeat (first | refine RunsE.seq ?_ | refine RunsE.skip ?_ | refine RunsE.block ?_ | refine RunsE.inBlock ?_ | refine RunsE.yes rfl ?_ | refine RunsE.no rfl ?_ | refine RunsE.exit rfl ?_)
      refine RunsE.region ?_
      refine OpsE.ev (Ev.move rfl) rfl ?_
      refine OpsE.ev (Ev.assign rfl) rfl ?_
      refine OpsE.nil ?_
      by_cases h2 : x = z
      ·
        repeat (first | refine RunsE.seq ?_ | refine RunsE.skip ?_ | refine RunsE.block ?_ | refine RunsE.inBlock ?_ | refine RunsE.yes rfl ?_ | refine RunsE.no rfl ?_ | refine RunsE.exit rfl ?_)
        refine RunsE.region ?_
        refine OpsE.ev (Ev.move rfl) rfl ?_
        refine OpsE.ev (Ev.move rfl) rfl ?_
        refine OpsE.ev (Ev.move rfl) rfl ?_
        refine OpsE.ev (Ev.iaSl (n := 3) (sz := 1) (m := i) (o := off + i) rfl rfl rfl (by kernel_rfl) (by omega) (by omega)) rfl ?_
        refine OpsE.ev (Ev.load H rfl (by kernel_rfl) hrd) rfl ?_
        refine OpsE.ev (Ev.eql (r := true) rfl rfl (beq_iff_eq.2 h2)) rfl ?_
        refine OpsE.nil ?_
        repeat (first | refine RunsE.seq ?_ | refine RunsE.skip ?_ | refine RunsE.block ?_ | refine RunsE.inBlock ?_ | refine RunsE.yes rfl ?_ | refine RunsE.no rfl ?_ | refine RunsE.exit rfl ?_)
        refine RunsE.region ?_
        refine OpsE.ev (Ev.move rfl) rfl ?_
        refine OpsE.ev (Ev.assign rfl) rfl ?_
        refine OpsE.nil ?_
        repeat (first | refine RunsE.seq ?_ | refine RunsE.skip ?_ | refine RunsE.block ?_ | refine RunsE.inBlock ?_ | refine RunsE.yes rfl ?_ | refine RunsE.no rfl ?_ | refine RunsE.exit rfl ?_)
        refine RunsE.ret1 Tryd.func35 rfl rfl ⟨⟨_, rfl, ?_⟩, H⟩
        rw [decide_eq_true (by omega)]
        exact (List.contains_iff_mem.2 (by rw [h2]; exact List.mem_of_getElem? hz)).symm
      ·
        repeat (first | refine RunsE.seq ?_ | refine RunsE.skip ?_ | refine RunsE.block ?_ | refine RunsE.inBlock ?_ | refine RunsE.yes rfl ?_ | refine RunsE.no rfl ?_ | refine RunsE.exit rfl ?_)
        refine RunsE.region ?_
        refine OpsE.ev (Ev.move rfl) rfl ?_
        refine OpsE.ev (Ev.move rfl) rfl ?_
        refine OpsE.ev (Ev.move rfl) rfl ?_
        refine OpsE.ev (Ev.iaSl (n := 3) (sz := 1) (m := i) (o := off + i) rfl rfl rfl (by kernel_rfl) (by omega) (by omega)) rfl ?_
        refine OpsE.ev (Ev.load H rfl (by kernel_rfl) hrd) rfl ?_
        refine OpsE.ev (Ev.eql (r := false) rfl rfl (beq_eq_false_iff_ne.2 h2)) rfl ?_
        refine OpsE.nil ?_
        repeat refine RunsE.seq ?_
        refine RunsE.no rfl ?_
        repeat (first | refine RunsE.seq ?_ | refine RunsE.skip ?_ | refine RunsE.block ?_ | refine RunsE.inBlock ?_ | refine RunsE.yes rfl ?_ | refine RunsE.no rfl ?_ | refine RunsE.exit rfl ?_)
        refine RunsE.region ?_
        refine OpsE.ev (Ev.add rfl rfl) rfl ?_
        refine OpsE.ev (Ev.move rfl) rfl ?_
        refine OpsE.nil ?_
        refine nextL (i + 1) _ _ (by omega) ⟨by omega, H, fun j hj => ?_⟩ ⟨rfl, rfl, rfl, rfl, trivial⟩
        rcases Nat.lt_or_eq_of_le (Nat.le_of_lt_succ hj) with h | h
        · exact hn j h
        · rw [h, hz]; intro he; exact h2 (Option.some.inj he).symm
  · clear H
    rintro _ w ⟨H, hn⟩
    repeat (first | refine RunsE.seq ?_ | refine RunsE.skip ?_ | refine RunsE.block ?_ | refine RunsE.inBlock ?_ | refine RunsE.yes rfl ?_ | refine RunsE.no rfl ?_ | refine RunsE.exit rfl ?_)
    refine RunsE.region ?_
    refine OpsE.ev (Ev.assign rfl) rfl ?_
    refine OpsE.nil ?_
    repeat (first | refine RunsE.seq ?_ | refine RunsE.skip ?_ | refine RunsE.block ?_ | refine RunsE.inBlock ?_ | refine RunsE.yes rfl ?_ | refine RunsE.no rfl ?_ | refine RunsE.exit rfl ?_)
    exact RunsE.ret1 Tryd.func35 rfl rfl ⟨⟨_, rfl, by rw [hn]; rfl⟩, H⟩

theorem contains_spec [Strm] (v : Value) (zs : List Int) (x : Int) (hl : zs.length ≤ 9223372036854775807) (w : World) (F : List (Nat × Obj)) (hv : IntsIn .i64 F v zs) (H : SL w F) :
    Does Tryd.prog 28 #[v, .int .i64 x] w fun r w' => r = .bool (zs.contains x) ∧ SL w' F := by
  refine Does.intro (args := [_, _]) (e := [(0, _), (1, _)]) Tryd.func28 rfl Tryd.ntmps28 rfl rfl ?_
  repeat (first | refine RunsE.seq ?_ | refine RunsE.skip ?_ | refine RunsE.block ?_ | refine RunsE.inBlock ?_ | refine RunsE.yes rfl ?_ | refine RunsE.no rfl ?_ | refine RunsE.exit rfl ?_)
  repeat (first | refine RunsE.seq ?_ | refine RunsE.skip ?_ | refine RunsE.block ?_ | refine RunsE.inBlock ?_ | refine RunsE.yes rfl ?_ | refine RunsE.no rfl ?_ | refine RunsE.exit rfl ?_)
  refine RunsE.region ?_
  refine OpsE.ev (Ev.assign rfl) rfl ?_
  refine OpsE.nil ?_
  repeat (first | refine RunsE.seq ?_ | refine RunsE.skip ?_ | refine RunsE.block ?_ | refine RunsE.inBlock ?_ | refine RunsE.yes rfl ?_ | refine RunsE.no rfl ?_ | refine RunsE.exit rfl ?_)
  refine RunsE.region ?_
  refine OpsE.ev (Ev.move rfl) rfl ?_
  refine OpsE.ev (Ev.move rfl) rfl ?_
  refine OpsE.ex (Ex.call rfl Tryd.call35 (index_spec v zs x hl w F hv H)) rfl ?_; (try clear H); rintro _ w ⟨⟨n, rfl, hn⟩, H⟩
  refine OpsE.ev (Ev.geq (r := zs.contains x) rfl rfl hn) rfl ?_
  refine OpsE.ev (Ev.assign rfl) rfl ?_
  refine OpsE.nil ?_
  repeat (first | refine RunsE.seq ?_ | refine RunsE.skip ?_ | refine RunsE.block ?_ | refine RunsE.inBlock ?_ | refine RunsE.yes rfl ?_ | refine RunsE.no rfl ?_ | refine RunsE.exit rfl ?_)
  exact RunsE.ret1 Tryd.func28 rfl rfl ⟨rfl, H⟩

theorem startkept_spec [Strm] (v : Value) (zs : List Int) (x : Int) (c : Nat) (hl : zs.length ≤ 9223372036854775807) (w : World) (F : List (Nat × Obj)) (hv : IntsIn .i64 F v zs) (hc : Rd F ⟨c, 0, none⟩ v) (H : SL w F) :
    Does Tryd.prog 27 #[.int .i64 x, .pointer (some ⟨c, 0, none⟩)] w fun r w' => r = .bool (zs.contains x) ∧ SL w' F := by
  refine Does.intro (args := [_, _]) (e := [(0, _), (1, _)]) Tryd.func27 rfl Tryd.ntmps27 rfl rfl ?_
  repeat (first | refine RunsE.seq ?_ | refine RunsE.skip ?_ | refine RunsE.block ?_ | refine RunsE.inBlock ?_ | refine RunsE.yes rfl ?_ | refine RunsE.no rfl ?_ | refine RunsE.exit rfl ?_)
  repeat (first | refine RunsE.seq ?_ | refine RunsE.skip ?_ | refine RunsE.block ?_ | refine RunsE.inBlock ?_ | refine RunsE.yes rfl ?_ | refine RunsE.no rfl ?_ | refine RunsE.exit rfl ?_)
  refine RunsE.region ?_
  refine OpsE.ev (Ev.assign rfl) rfl ?_
  refine OpsE.nil ?_
  repeat (first | refine RunsE.seq ?_ | refine RunsE.skip ?_ | refine RunsE.block ?_ | refine RunsE.inBlock ?_ | refine RunsE.yes rfl ?_ | refine RunsE.no rfl ?_ | refine RunsE.exit rfl ?_)
  refine RunsE.region ?_
  refine OpsE.ev (Ev.load H rfl (by kernel_rfl) hc) rfl ?_
  refine OpsE.ev (Ev.move rfl) rfl ?_
  refine OpsE.ex (Ex.call rfl Tryd.call28 (contains_spec v zs x hl w F hv H)) rfl ?_; (try clear H); rintro _ w ⟨rfl, H⟩
  refine OpsE.ev (Ev.assign rfl) rfl ?_
  refine OpsE.nil ?_
  repeat (first | refine RunsE.seq ?_ | refine RunsE.skip ?_ | refine RunsE.block ?_ | refine RunsE.inBlock ?_ | refine RunsE.yes rfl ?_ | refine RunsE.no rfl ?_ | refine RunsE.exit rfl ?_)
  exact RunsE.ret1 Tryd.func27 rfl rfl ⟨rfl, H⟩

theorem synckept_spec [Strm] (x : Value) (w : World) (F : List (Nat × Obj)) (H : SL w F) : Does Tryd.prog 31 #[x] w fun r w' => r = .bool true ∧ SL w' F := by
  refine Does.intro (args := [_]) (e := [(0, _)]) Tryd.func31 rfl Tryd.ntmps31 rfl rfl ?_
  repeat (first | refine RunsE.seq ?_ | refine RunsE.skip ?_ | refine RunsE.block ?_ | refine RunsE.inBlock ?_ | refine RunsE.yes rfl ?_ | refine RunsE.no rfl ?_ | refine RunsE.exit rfl ?_)
  repeat (first | refine RunsE.seq ?_ | refine RunsE.skip ?_ | refine RunsE.block ?_ | refine RunsE.inBlock ?_ | refine RunsE.yes rfl ?_ | refine RunsE.no rfl ?_ | refine RunsE.exit rfl ?_)
  refine RunsE.region ?_
  refine OpsE.ev (Ev.assign rfl) rfl ?_
  refine OpsE.nil ?_
  repeat (first | refine RunsE.seq ?_ | refine RunsE.skip ?_ | refine RunsE.block ?_ | refine RunsE.inBlock ?_ | refine RunsE.yes rfl ?_ | refine RunsE.no rfl ?_ | refine RunsE.exit rfl ?_)
  refine RunsE.region ?_
  refine OpsE.ev (Ev.assign rfl) rfl ?_
  refine OpsE.nil ?_
  repeat (first | refine RunsE.seq ?_ | refine RunsE.skip ?_ | refine RunsE.block ?_ | refine RunsE.inBlock ?_ | refine RunsE.yes rfl ?_ | refine RunsE.no rfl ?_ | refine RunsE.exit rfl ?_)
  exact RunsE.ret1 Tryd.func31 rfl rfl ⟨rfl, H⟩

set_option maxHeartbeats 1000000 in
theorem settle_spec [Strm] (s : St) (kept : Nat → Bool) (b : Nat) (A : List (Nat × Obj)) (kf : FuncId) (cap : Array Value) (hQl : s.Q.length ≤ 1000000) (w : World) (F : List (Nat × Obj)) (hA : HoldS b s A)
    (eg : ∀ args w, (callFunc kf args).run Tryd.prog w = .ok (.enter kf args) w)
    (hk : ∀ i, i < s.Q.length → ∀ w A', SL w (A' ++ F) → Does Tryd.prog kf (#[] ++ [Value.int .i64 (i : Int)].toArray ++ cap) w fun r w' => r = .bool (kept i) ∧ SL w' (A' ++ F)) (H : SL w (A ++ F)) :
    Does Tryd.prog 26 #[.pointer (some ⟨b, 0, none⟩), .func (.func kf) #[] cap] w fun r w' => ∃ A', r = .tuple #[] ∧ HoldS b (s.settle kept) A' ∧ SL w' (A' ++ F) := by
  obtain ⟨rb, pv, qv, ql, Bq, D, hp, hq, hQ, ok⟩ := hA
  obtain ⟨aq, cq, rfl, hcq⟩ := hq.leCap
  rw [List.cons_append] at H
  have hql := hQ.len
  refine Does.intro (args := [_, _]) (e := [(0, _), (1, _)]) Tryd.func26 rfl Tryd.ntmps26 rfl rfl ?_
  repeat (first | refine RunsE.seq ?_ | refine RunsE.skip ?_ | refine RunsE.block ?_ | refine RunsE.inBlock ?_ | refine RunsE.yes rfl ?_ | refine RunsE.no rfl ?_ | refine RunsE.exit rfl ?_)
  repeat (first | refine RunsE.seq ?_ | refine RunsE.skip ?_ | refine RunsE.block ?_ | refine RunsE.inBlock ?_ | refine RunsE.yes rfl ?_ | refine RunsE.no rfl ?_ | refine RunsE.exit rfl ?_)
  refine RunsE.region ?_
  refine OpsE.ev (Ev.move rfl) rfl ?_
  refine OpsE.ev (Ev.nilCheck rfl) rfl ?_
  refine OpsE.ev (Ev.fieldAddr (o := 1) rfl (by kernel_rfl)) rfl ?_
  refine OpsE.ev (Ev.load H rfl (by kernel_rfl) (by first | exact Rd.mk m0 rfl | exact Rd.mk m1 rfl | exact Rd.mk m2 rfl | exact Rd.mk m3 rfl | assumption)) rfl ?_
  refine OpsE.ev (Ev.lenSl (d := 67) rfl rfl (by kernel_rfl)) rfl ?_
  refine OpsE.ev (Ev.move rfl) rfl ?_
  refine OpsE.nil ?_
  repeat refine RunsE.seq ?_
  refine RunsE.join (fun _ : Unit => [(0, .pointer (some ⟨b, 0, none⟩))])
    (fun _ w => ∃ pv', PagesIn D pv' (setl kept s.Q s.P s.Q.length) ∧ SL w ((b, .cells #[.slice (some ⟨rb, 0, none⟩) s.P.length s.P.length, .slice aq ql.length cq, .int .i64 (s.left : Int), .bool s.armed, .bool s.down] 62 (0, 0)) :: (rb, .cells pv'.toArray 24 (0, 0)) :: ((Bq ++ D) ++ F))) (fun next => ?_) ?_
  · refine RunsE.block ?_
    refine RunsE.loop (fun i : Nat × List Value => [(0, .pointer (some ⟨b, 0, none⟩)), (1, .func (.func kf) #[] cap), (9, .slice aq ql.length cq), (10, .int .i64 (ql.length : Int)), (11, .int .i64 (i.1 : Int))])
      (fun i w => i.1 ≤ ql.length ∧ PagesIn D i.2 (setl kept s.Q s.P i.1) ∧ SL w ((b, .cells #[.slice (some ⟨rb, 0, none⟩) s.P.length s.P.length, .slice aq ql.length cq, .int .i64 (s.left : Int), .bool s.armed, .bool s.down] 62 (0, 0)) :: (rb, .cells i.2.toArray 24 (0, 0)) :: ((Bq ++ D) ++ F)))
      (fun i => ql.length - i.1) (0, pv) ⟨rfl, rfl, rfl, rfl, rfl, trivial⟩ ⟨by omega, hp, H⟩ ?_
    clear H hp pv
    rintro ⟨i, pv⟩ w ⟨hi, hp, H⟩ nextL
    simp only at hi hp H
    by_cases h1 : i = ql.length
    ·
      repeat (first | refine RunsE.seq ?_ | refine RunsE.skip ?_ | refine RunsE.block ?_ | refine RunsE.inBlock ?_ | refine RunsE.yes rfl ?_ | refine RunsE.no rfl ?_ | refine RunsE.exit rfl ?_)
      refine RunsE.region ?_
      refine OpsE.ev (Ev.lss (r := false) rfl rfl (decide_eq_false (by simp only; omega))) rfl ?_
      refine OpsE.nil ?_
      repeat refine RunsE.seq ?_
      refine RunsE.no rfl ?_
      refine RunsE.exit rfl ?_
      rw [h1, hql] at hp
      exact next () _ _ ⟨pv, hp, H⟩ ⟨rfl, trivial⟩
    · clear next
      obtain ⟨q, hq1⟩ : ∃ q, ql[i]? = some q := ⟨ql[i]'(by omega), by simp [show i < ql.length by omega]⟩
      obtain ⟨hq2, hq3⟩ := hQ.el i q hq1
      have hqm : s.Q.getD i (0, []) ∈ s.Q := getD_mem (by omega)
      have hqp := ok.qpg _ hqm
      rw [← hq2] at hqp
      have hpl := hp.len
      rw [setl_len] at hpl
      obtain ⟨bq, cap', sp, fr, e1, rfl, hb1, hb2, hb3⟩ := hq.shape (by omega)
      cases e1
      repeat (first | refine RunsE.seq ?_ | refine RunsE.skip ?_ | refine RunsE.block ?_ | refine RunsE.inBlock ?_ | refine RunsE.yes rfl ?_ | refine RunsE.no rfl ?_ | refine RunsE.exit rfl ?_)
      refine RunsE.region ?_
      refine OpsE.ev (Ev.lss (r := true) rfl rfl (decide_eq_true (by simp only; omega))) rfl ?_
      refine OpsE.nil ?_
      repeat (first | refine RunsE.seq ?_ | refine RunsE.skip ?_ | refine RunsE.block ?_ | refine RunsE.inBlock ?_ | refine RunsE.yes rfl ?_ | refine RunsE.no rfl ?_ | refine RunsE.exit rfl ?_)
      refine RunsE.region ?_
      refine OpsE.ev (Ev.move rfl) rfl ?_
      refine OpsE.ev (Ev.iaSl (n := 67) (sz := 2) (m := i) (o := i * 2) rfl rfl rfl (by kernel_rfl) (by omega) (Nat.zero_add _)) rfl ?_
      refine OpsE.ev (Ev.loadPart (n := 2) (vs := gQ q) (cs := ql.flatMap gQ ++ sp) H rfl (by kernel_rfl) rfl m2 (queue_at hq1)) rfl ?_
      refine OpsE.ex (Ex.alloc (zv := .agg #[.int .i64 0, .slice none 0 0]) H (by kernel_rfl)) rfl ?_; (try clear H); rintro _ w ⟨b5, rfl, H⟩; simp only [Value.cells] at H
      refine OpsE.ev (Ev.assign rfl) rfl ?_
      refine OpsE.exn (Ex.storeBlk (n := 2) H rfl rfl (by kernel_rfl) (by first | rfl | simp) (by simp [Value.oneCell']) u0 (by first | rfl | simp) (Thaw.zero _ _)) ?_; (try clear H); intro _ w H
      refine OpsE.nil ?_
      replace H : SL w ((((b5, Obj.cells (gQ q).toArray 67 (0, 0)) :: (b, .cells #[.slice (some ⟨rb, 0, none⟩) s.P.length s.P.length, .slice (some ⟨bq, 0, none⟩) ql.length cq, .int .i64 (s.left : Int), .bool s.armed, .bool s.down] 62 (0, 0)) :: (rb, .cells pv.toArray 24 (0, 0)) :: ([(bq, .cells (ql.flatMap gQ ++ sp).toArray 67 fr)] ++ D))) ++ F) := H
      repeat (first | refine RunsE.seq ?_ | refine RunsE.skip ?_ | refine RunsE.block ?_ | refine RunsE.inBlock ?_ | refine RunsE.yes rfl ?_ | refine RunsE.no rfl ?_ | refine RunsE.exit rfl ?_)
      refine RunsE.region ?_
      refine OpsE.ev (Ev.move rfl) rfl ?_
      refine OpsE.ev (Ev.move rfl) rfl ?_
      refine OpsE.ex (Ex.callv rfl rfl eg (hk i (by omega) w _ H)) rfl ?_; (try clear H); rintro _ w ⟨rfl, H⟩
      refine OpsE.nil ?_
      by_cases hki : kept i = true
      · repeat refine RunsE.seq ?_
        refine RunsE.yes (by rw [hki]; rfl) ?_
        repeat (first | refine RunsE.seq ?_ | refine RunsE.skip ?_ | refine RunsE.block ?_ | refine RunsE.inBlock ?_ | refine RunsE.yes rfl ?_ | refine RunsE.no rfl ?_ | refine RunsE.exit rfl ?_)
        refine RunsE.drawS H [9] (by kernel_rfl) ?_; (try clear H); intro w H
        refine OpsD.take 0 rfl (by kernel_rfl) (by first | exact H | exact H.drop | exact H.drop.drop | exact H.dropL | exact H.drop.dropL | exact H.dropL.dropL) (fun w H => Ev.move rfl) rfl ?_
        refine OpsD.take 1 rfl (by kernel_rfl) (by first | exact H | exact H.drop | exact H.drop.drop | exact H.dropL | exact H.drop.dropL | exact H.dropL.dropL) (fun w H => Ev.nilCheck rfl) rfl ?_
        refine OpsD.take 2 rfl (by kernel_rfl) (by first | exact H | exact H.drop | exact H.drop.drop | exact H.dropL | exact H.drop.dropL | exact H.dropL.dropL) (fun w H => Ev.fieldAddr (o := 0) rfl (by kernel_rfl)) rfl ?_
        refine OpsD.take 3 rfl (by kernel_rfl) (by first | exact H | exact H.drop | exact H.drop.drop | exact H.dropL | exact H.drop.dropL | exact H.dropL.dropL) (fun w H => Ev.load H rfl (by kernel_rfl) (by first | exact Rd.mk m0 rfl | exact Rd.mk m1 rfl | exact Rd.mk m2 rfl | exact Rd.mk m3 rfl | assumption)) rfl ?_
        refine OpsD.take 4 rfl (by kernel_rfl) (by first | exact H | exact H.drop | exact H.drop.drop | exact H.dropL | exact H.drop.dropL | exact H.dropL.dropL) (fun w H => Ev.fieldAddr (o := 0) rfl (by kernel_rfl)) rfl ?_
        refine OpsD.take 5 rfl (by kernel_rfl) (by first | exact H | exact H.drop | exact H.drop.drop | exact H.dropL | exact H.drop.dropL | exact H.dropL.dropL) (fun w H => Ev.load H rfl (by kernel_rfl) (by first | exact Rd.mk m0 rfl | exact Rd.mk m1 rfl | exact Rd.mk m2 rfl | exact Rd.mk m3 rfl | assumption)) rfl ?_
        refine OpsD.take 6 rfl (by kernel_rfl) (by first | exact H | exact H.drop | exact H.drop.drop | exact H.dropL | exact H.drop.dropL | exact H.dropL.dropL) (fun w H => Ev.fieldAddr (o := 1) rfl (by kernel_rfl)) rfl ?_
        refine OpsD.take 7 rfl (by kernel_rfl) (by first | exact H | exact H.drop | exact H.drop.drop | exact H.dropL | exact H.drop.dropL | exact H.dropL.dropL) (fun w H => Ev.load H rfl (by kernel_rfl) (by first | exact Rd.mk m0 rfl | exact Rd.mk m1 rfl | exact Rd.mk m2 rfl | exact Rd.mk m3 rfl | assumption)) rfl ?_
        refine OpsD.take 8 rfl (by kernel_rfl) (by first | exact H | exact H.drop | exact H.drop.drop | exact H.dropL | exact H.drop.dropL | exact H.dropL.dropL) (fun w H => Ev.iaSl (n := 24) (sz := 1) (m := q.1) rfl rfl rfl (by kernel_rfl) (by omega)) rfl ?_
        refine OpsD.one 9 (by kernel_rfl) (StepD.exnT rfl rfl (Ex.store1 (cs' := (pv.set q.1 (.slice q.2.1 q.2.2.1 q.2.2.2)).toArray) H rfl rfl (by kernel_rfl) rfl u2 (by simp; omega) (Thaw.zero _ _) (by simp)) ?_); (try clear H); intro _ w H
        refine OpsD.done (by kernel_rfl) ?_
        repeat (first | refine RunsE.seq ?_ | refine RunsE.skip ?_ | refine RunsE.block ?_ | refine RunsE.inBlock ?_ | refine RunsE.yes rfl ?_ | refine RunsE.no rfl ?_ | refine RunsE.exit rfl ?_)
        refine RunsE.region ?_
        refine OpsE.ev (Ev.add rfl rfl) rfl ?_
        refine OpsE.ev (Ev.move rfl) rfl ?_
        refine OpsE.nil ?_
        refine nextL (i + 1, pv.set q.1 (.slice q.2.1 q.2.2.1 q.2.2.2)) _ _ (by simp only; omega) ⟨by simp only; omega, ?_, H.drop⟩ ⟨rfl, rfl, rfl, rfl, rfl, trivial⟩
        simp only [setl, hki, if_true]
        rw [← hq2]
        exact hp.set hq3 (by rw [setl_len]; exact hqp)
      · repeat refine RunsE.seq ?_
        refine RunsE.no (by rw [Bool.not_eq_true _ |>.mp hki]; rfl) ?_
        repeat (first | refine RunsE.seq ?_ | refine RunsE.skip ?_ | refine RunsE.block ?_ | refine RunsE.inBlock ?_ | refine RunsE.yes rfl ?_ | refine RunsE.no rfl ?_ | refine RunsE.exit rfl ?_)
        refine RunsE.region ?_
        refine OpsE.ev (Ev.add rfl rfl) rfl ?_
        refine OpsE.ev (Ev.move rfl) rfl ?_
        refine OpsE.nil ?_
        refine nextL (i + 1, pv) _ _ (by simp only; omega) ⟨by simp only; omega, ?_, H.drop⟩ ⟨rfl, rfl, rfl, rfl, rfl, trivial⟩
        simp only [setl, hki]
        exact hp
  · clear H hp pv
    rintro _ w ⟨pv, hp, H⟩
    have hpl := hp.len
    rw [setl_len] at hpl
    repeat (first | refine RunsE.seq ?_ | refine RunsE.skip ?_ | refine RunsE.block ?_ | refine RunsE.inBlock ?_ | refine RunsE.yes rfl ?_ | refine RunsE.no rfl ?_ | refine RunsE.exit rfl ?_)
    refine RunsE.region ?_
    refine OpsE.ev (Ev.move rfl) rfl ?_
    refine OpsE.ev (Ev.nilCheck rfl) rfl ?_
    refine OpsE.ev (Ev.fieldAddr (o := 1) rfl (by kernel_rfl)) rfl ?_
    refine OpsE.ev (Ev.load H rfl (by kernel_rfl) (by first | exact Rd.mk m0 rfl | exact Rd.mk m1 rfl | exact Rd.mk m2 rfl | exact Rd.mk m3 rfl | assumption)) rfl ?_
    refine OpsE.exn (Ex.clear (zv := .agg #[.int .i64 0, .slice none 0 0]) H.pull2 rfl hq (fun _ => rfl) (by kernel_rfl) (by kernel_rfl) rfl (by simp [Value.oneCell', Value.cells])) ?_; (try clear H); rintro _ w ⟨_, B', hq', H⟩; replace H := H.push2
    refine OpsE.nil ?_
    repeat (first | refine RunsE.seq ?_ | refine RunsE.skip ?_ | refine RunsE.block ?_ | refine RunsE.inBlock ?_ | refine RunsE.yes rfl ?_ | refine RunsE.no rfl ?_ | refine RunsE.exit rfl ?_)
    refine RunsE.region ?_
    refine OpsE.ev (Ev.move rfl) rfl ?_
    refine OpsE.ev (Ev.move rfl) rfl ?_
    refine OpsE.ev (Ev.nilCheck rfl) rfl ?_
    refine OpsE.ev (Ev.fieldAddr (o := 1) rfl (by kernel_rfl)) rfl ?_
    refine OpsE.ev (Ev.load H rfl (by kernel_rfl) (by first | exact Rd.mk m0 rfl | exact Rd.mk m1 rfl | exact Rd.mk m2 rfl | exact Rd.mk m3 rfl | assumption)) rfl ?_
    refine OpsE.ev (Ev.slSl0 (sz := 2) (el := 67) rfl (by kernel_rfl) hcq) rfl ?_
    refine OpsE.ev (Ev.nilCheck rfl) rfl ?_
    refine OpsE.ev (Ev.fieldAddr (o := 1) rfl (by kernel_rfl)) rfl ?_
    refine OpsE.exn (Ex.store1 H rfl rfl (by kernel_rfl) rfl u0 (by simp) (Thaw.zero _ _) rfl) ?_; (try clear H); intro _ w H
    refine OpsE.nil ?_
    refine RunsE.end0 Tryd.func26 rfl ⟨_, rfl, .mk rb pv (cut0 2 (.slice aq ql.length cq)) [] B' D hp hq' ⟨rfl, fun i q h => by simp at h⟩ (St.settle_ok ok kept), ?_⟩
    simp only [St.settle, setl_len]
    exact H

end Go.Proofs.YtoiehgiokfnmkaaDoor
