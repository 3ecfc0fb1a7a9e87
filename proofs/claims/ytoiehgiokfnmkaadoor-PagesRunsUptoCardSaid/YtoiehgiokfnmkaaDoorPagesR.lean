/-
  Read: the loose writes backward (a range over a function), then the safe page.
-/
import Derived.Test.YtoiehgiokfnmkaaDoorPagesC
namespace Go.Proofs.YtoiehgiokfnmkaaDoor
open Go.Proofs.YtoiehgiokfnmkaaDoor.V

theorem back_spec [Strm] (v : Value) (hv : ∃ a n c, v = .slice a n c) (w : World) (F : List (Nat × Obj)) (H : SL w F) :
    Does Tryd.prog 24 #[v] w fun r w' => ∃ c, r = .func (.func 34) #[] #[.pointer (some ⟨c, 0, none⟩)] ∧ SL w' ((c, .cells #[v] 60 (0, 0)) :: F) := by
  obtain ⟨a, n, c, rfl⟩ := hv
  refine Does.intro (args := [_]) (e := [(0, _)]) Tryd.func24 rfl Tryd.ntmps24 rfl rfl ?_
  repeat (first | refine RunsE.seq ?_ | refine RunsE.skip ?_ | refine RunsE.block ?_ | refine RunsE.inBlock ?_ | refine RunsE.yes rfl ?_ | refine RunsE.no rfl ?_ | refine RunsE.exit rfl ?_)
  repeat (first | refine RunsE.seq ?_ | refine RunsE.skip ?_ | refine RunsE.block ?_ | refine RunsE.inBlock ?_ | refine RunsE.yes rfl ?_ | refine RunsE.no rfl ?_ | refine RunsE.exit rfl ?_)
  refine RunsE.region ?_
  refine OpsE.ex (Ex.box H rfl) rfl ?_; (try clear H); rintro _ w ⟨b1, rfl, H⟩; simp only [Value.cells] at H
  refine OpsE.ev (Ev.assign rfl) rfl ?_
  refine OpsE.nil ?_
  repeat (first | refine RunsE.seq ?_ | refine RunsE.skip ?_ | refine RunsE.block ?_ | refine RunsE.inBlock ?_ | refine RunsE.yes rfl ?_ | refine RunsE.no rfl ?_ | refine RunsE.exit rfl ?_)
  refine RunsE.region ?_
  refine OpsE.ev (Ev.makeFunc rfl rfl) rfl ?_
  refine OpsE.ev (Ev.assign rfl) rfl ?_
  refine OpsE.nil ?_
  repeat (first | refine RunsE.seq ?_ | refine RunsE.skip ?_ | refine RunsE.block ?_ | refine RunsE.inBlock ?_ | refine RunsE.yes rfl ?_ | refine RunsE.no rfl ?_ | refine RunsE.exit rfl ?_)
  exact RunsE.ret1 Tryd.func24 rfl rfl ⟨_, rfl, H⟩

theorem backiter_spec [Strm] (r : Loop) (l c : Nat) (aq : Option Addr) (cq : Nat) (ql : List QE) (Bq L : List (Nat × Obj)) (hit : Nat → Prop) (Fin : Nat → World → Prop) (hq : Slc gQ 2 67 (.slice aq ql.length cq) ql Bq)
    (hql : ql.length ≤ 1000000) (hps : r.params.size = 2) (hc : Rd L ⟨c, 0, none⟩ (.slice aq ql.length cq)) (hB : ∀ p ∈ Bq, p ∈ L)
    (round : ∀ i q w, ql[i]? = some q → SL w ((l, .loop r) :: L) → Round Tryd.prog l r.fn ((r.params.zip [.int .i64 (i : Int), .agg (gQ q).toArray].toArray).foldl (fun tmps (t, a) => tmps.setIfInBounds t a) r.tmps) r.assign r.body w
      fun v w' => ∃ g : Bool, v = .bool g ∧ (g = true → ¬ hit i ∧ SL w' ((l, .loop r) :: L)) ∧ (g = false → Fin i w'))
    (w : World) (H : SL w ((l, .loop r) :: L)) :
    Does Tryd.prog 34 #[.func (.yield l) #[] #[], .pointer (some ⟨c, 0, none⟩)] w fun _ w' =>
      (SL w' ((l, .loop r) :: L) ∧ ∀ i, i < ql.length → ¬ hit i) ∨ ∃ i, i < ql.length ∧ (∀ j, i < j → j < ql.length → ¬ hit j) ∧ Fin i w' := by
  refine Does.intro (args := [_, _]) (e := [(0, _), (1, _)]) Tryd.func34 rfl Tryd.ntmps34 rfl rfl ?_
  repeat (first | refine RunsE.seq ?_ | refine RunsE.skip ?_ | refine RunsE.block ?_ | refine RunsE.inBlock ?_ | refine RunsE.yes rfl ?_ | refine RunsE.no rfl ?_ | refine RunsE.exit rfl ?_)
  repeat (first | refine RunsE.seq ?_ | refine RunsE.skip ?_ | refine RunsE.block ?_ | refine RunsE.inBlock ?_ | refine RunsE.yes rfl ?_ | refine RunsE.no rfl ?_ | refine RunsE.exit rfl ?_)
  refine RunsE.region ?_
  refine OpsE.ev (Ev.load H rfl (by kernel_rfl) hc.tail) rfl ?_
  refine OpsE.ev (Ev.lenSl (d := 67) rfl rfl (by kernel_rfl)) rfl ?_
  refine OpsE.ev (Ev.sub (c := (ql.length : Int) - 1) rfl rfl (qi64 (by omega) (by omega))) rfl ?_
  refine OpsE.ev (Ev.assign rfl) rfl ?_
  refine OpsE.nil ?_
  refine RunsE.block ?_
  refine RunsE.loop (fun k : Nat => [(0, .func (.yield l) #[] #[]), (1, .pointer (some ⟨c, 0, none⟩)), (3, .int .i64 ((k : Int) - 1))])
    (fun k w => k ≤ ql.length ∧ SL w ((l, .loop r) :: L) ∧ ∀ j, k ≤ j → j < ql.length → ¬ hit j) (fun k => k) ql.length ⟨rfl, rfl, rfl, trivial⟩ ⟨by omega, H, fun j h1 h2 => by omega⟩ ?_
  clear H
  rintro k w ⟨hk, H, hn⟩ nextL
  cases k with
  | zero =>
    repeat (first | refine RunsE.seq ?_ | refine RunsE.skip ?_ | refine RunsE.block ?_ | refine RunsE.inBlock ?_ | refine RunsE.yes rfl ?_ | refine RunsE.no rfl ?_ | refine RunsE.exit rfl ?_)
    refine RunsE.region ?_
    refine OpsE.ev (Ev.move rfl) rfl ?_
    refine OpsE.ev (Ev.geq (r := false) rfl rfl (decide_eq_false (by omega))) rfl ?_
    refine OpsE.nil ?_
    repeat refine RunsE.seq ?_
    refine RunsE.no rfl ?_
    refine RunsE.exit rfl ?_
    exact RunsE.end0 Tryd.func34 rfl (.inl ⟨H, fun i hi => hn i (by omega) hi⟩)
  | succ i =>
    obtain ⟨q, hq1⟩ : ∃ q, ql[i]? = some q := ⟨ql[i]'(by omega), by simp [show i < ql.length by omega]⟩
    obtain ⟨bq, cap', sp, fr, e1, rfl, hb1, hb2, hb3⟩ := hq.shape (by omega)
    cases e1
    have hm := hB _ (.head _)
    repeat (first | refine RunsE.seq ?_ | refine RunsE.skip ?_ | refine RunsE.block ?_ | refine RunsE.inBlock ?_ | refine RunsE.yes rfl ?_ | refine RunsE.no rfl ?_ | refine RunsE.exit rfl ?_)
    refine RunsE.region ?_
    refine OpsE.ev (Ev.move rfl) rfl ?_
    refine OpsE.ev (Ev.geq (r := true) rfl rfl (decide_eq_true (by omega))) rfl ?_
    refine OpsE.nil ?_
    repeat (first | refine RunsE.seq ?_ | refine RunsE.skip ?_ | refine RunsE.block ?_ | refine RunsE.inBlock ?_ | refine RunsE.yes rfl ?_ | refine RunsE.no rfl ?_ | refine RunsE.exit rfl ?_)
    repeat (first | refine RunsE.seq ?_ | refine RunsE.skip ?_ | refine RunsE.block ?_ | refine RunsE.inBlock ?_ | refine RunsE.yes rfl ?_ | refine RunsE.no rfl ?_ | refine RunsE.exit rfl ?_)
    refine RunsE.region ?_
    refine OpsE.ev (Ev.move rfl) rfl ?_
    refine OpsE.ev (Ev.move rfl) rfl ?_
    refine OpsE.ev (Ev.load H rfl (by kernel_rfl) hc.tail) rfl ?_
    refine OpsE.ev (Ev.move rfl) rfl ?_
    refine OpsE.ev (Ev.iaSl (n := 67) (sz := 2) (m := i) (o := i * 2) rfl rfl (by omega) (by kernel_rfl) (by omega) (Nat.zero_add _)) rfl ?_
    refine OpsE.ev (Ev.loadPart (n := 2) (vs := gQ q) (cs := ql.flatMap gQ ++ sp) H rfl (by kernel_rfl) rfl (.tail _ hm) (queue_at hq1)) rfl ?_
    refine OpsE.exR (ExR.yield (vs := [.int .i64 ((i + 1 : Nat) - 1), .agg (gQ q).toArray]) H m0 rfl rfl (by rw [hps]; rfl) (by rw [show (((i + 1 : Nat) : Int) - 1) = (i : Int) by omega]; exact round i q w hq1 H)) rfl ?_; rintro _ w ⟨g, rfl, hg1, hg2⟩
    refine OpsE.ev (Ev.not rfl) rfl ?_
    refine OpsE.nil ?_
    cases g with
    | true =>
      obtain ⟨hh, H⟩ := hg1 rfl
      repeat refine RunsE.seq ?_
      refine RunsE.no rfl ?_
      refine RunsE.skip ?_
      refine RunsE.inBlock ?_
      repeat (first | refine RunsE.seq ?_ | refine RunsE.skip ?_ | refine RunsE.block ?_ | refine RunsE.inBlock ?_ | refine RunsE.yes rfl ?_ | refine RunsE.no rfl ?_ | refine RunsE.exit rfl ?_)
      refine RunsE.region ?_
      refine OpsE.ev (Ev.move rfl) rfl ?_
      refine OpsE.ev (Ev.sub (c := (i : Int) - 1) rfl rfl (by rw [qi64 (by omega) (by omega)]; omega)) rfl ?_
      refine OpsE.ev (Ev.assign rfl) rfl ?_
      refine OpsE.nil ?_
      refine nextL i _ _ (by omega) ⟨by omega, H, fun j h1 h2 => ?_⟩ ⟨rfl, rfl, rfl, trivial⟩
      rcases Nat.lt_or_eq_of_le h1 with h | h
      · exact hn j h h2
      · rw [← h]; exact hh
    | false =>
      have hf := hg2 rfl
      repeat refine RunsE.seq ?_
      refine RunsE.yes rfl ?_
      exact RunsE.ret0 Tryd.func34 rfl (.inr ⟨i, by omega, fun j h1 h2 => hn j (by omega) h2, hf⟩)

theorem lastW_none {Q : List (Nat × List UInt8)} {p : Nat} : ∀ k, (∀ i, i < k → (Q.getD i (0, [])).1 ≠ p) → lastW Q p k = none
  | 0, _ => rfl
  | k + 1, h => by
    unfold lastW
    rw [if_neg (h k (by omega))]
    exact lastW_none k fun i hi => h i (by omega)

theorem lastW_some {Q : List (Nat × List UInt8)} {p i : Nat} (hp : (Q.getD i (0, [])).1 = p) : ∀ k, i < k → (∀ j, i < j → j < k → (Q.getD j (0, [])).1 ≠ p) → lastW Q p k = some (Q.getD i (0, [])).2
  | 0, h, _ => by omega
  | k + 1, hlt, h => by
    unfold lastW
    rcases Nat.lt_or_eq_of_le (Nat.le_of_lt_succ hlt) with h1 | h1
    · rw [if_neg (h k h1 (by omega))]
      exact lastW_some hp k h1 fun j h2 h3 => h j h2 (by omega)
    · subst h1
      rw [if_pos hp]

theorem read_has {s : St} {page : Int} (h : s.has page = false) : s.read page = ([], 1) := by simp [St.read, h]
theorem read_down {s : St} {page : Int} (h : s.has page = true) (h3 : s.down = true) : s.read page = ([], 13) := by simp [St.read, h, h3]
theorem read_up {s : St} {page : Int} (h : s.has page = true) (h3 : s.down = false) : s.read page = (s.page page.toNat, 0) := by simp [St.read, h, h3]

theorem nread_spec [Strm] (page : Int) (w : World) (F : List (Nat × Obj)) (H : SL w F) : Does Tryd.prog 5 #[.pointer none, .int .i64 page] w fun r w' => r = .tuple #[.slice none 0 0, EV 1] ∧ SL w' F := by
  refine Does.intro (args := [_, _]) (e := [(0, _), (1, _)]) Tryd.func5 rfl Tryd.ntmps5 rfl rfl ?_
  repeat (first | refine RunsE.seq ?_ | refine RunsE.skip ?_ | refine RunsE.block ?_ | refine RunsE.inBlock ?_ | refine RunsE.yes rfl ?_ | refine RunsE.no rfl ?_ | refine RunsE.exit rfl ?_)
  repeat (first | refine RunsE.seq ?_ | refine RunsE.skip ?_ | refine RunsE.block ?_ | refine RunsE.inBlock ?_ | refine RunsE.yes rfl ?_ | refine RunsE.no rfl ?_ | refine RunsE.exit rfl ?_)
  refine RunsE.region ?_
  refine OpsE.ex (Ex.box H rfl) rfl ?_; (try clear H); rintro _ w ⟨b3, rfl, H⟩; simp only [Value.cells] at H
  refine OpsE.ex (Ex.alloc (zv := .slice none 0 0) H (by kernel_rfl)) rfl ?_; (try clear H); rintro _ w ⟨b4, rfl, H⟩; simp only [Value.cells] at H
  refine OpsE.ex (Ex.alloc (zv := .nilIface) H (by kernel_rfl)) rfl ?_; (try clear H); rintro _ w ⟨b5, rfl, H⟩; simp only [Value.cells] at H
  refine OpsE.nil ?_
  repeat (first | refine RunsE.seq ?_ | refine RunsE.skip ?_ | refine RunsE.block ?_ | refine RunsE.inBlock ?_ | refine RunsE.yes rfl ?_ | refine RunsE.no rfl ?_ | refine RunsE.exit rfl ?_)
  refine RunsE.region ?_
  refine OpsE.ev (Ev.move rfl) rfl ?_
  refine OpsE.ev (Ev.load H rfl (by kernel_rfl) (Rd.mk m2 rfl)) rfl ?_
  refine OpsE.ex (Ex.call rfl Tryd.call23 (nis_spec page w _ H)) rfl ?_; (try clear H); rintro _ w ⟨rfl, H⟩
  refine OpsE.ev (Ev.not rfl) rfl ?_
  refine OpsE.ev (Ev.assign rfl) rfl ?_
  refine OpsE.nil ?_
  repeat (first | refine RunsE.seq ?_ | refine RunsE.skip ?_ | refine RunsE.block ?_ | refine RunsE.inBlock ?_ | refine RunsE.yes rfl ?_ | refine RunsE.no rfl ?_ | refine RunsE.exit rfl ?_)
  refine RunsE.region ?_
  refine OpsE.ev (Ev.makeInterface (d := (.int .i64)) rfl (by kernel_rfl) rfl) rfl ?_
  refine OpsE.exn (Ex.store1 H rfl rfl (by kernel_rfl) rfl u1 (by simp) (Thaw.zero _ _) rfl) ?_; (try clear H); intro _ w H
  refine OpsE.exn (Ex.store1 H rfl rfl (by kernel_rfl) rfl u0 (by simp) (Thaw.zero _ _) rfl) ?_; (try clear H); intro _ w H
  refine OpsE.nil ?_
  repeat (first | refine RunsE.seq ?_ | refine RunsE.skip ?_ | refine RunsE.block ?_ | refine RunsE.inBlock ?_ | refine RunsE.yes rfl ?_ | refine RunsE.no rfl ?_ | refine RunsE.exit rfl ?_)
  exact RunsE.ret2Cells H Tryd.func5 rfl rfl rfl (by kernel_rfl) (by kernel_rfl) (Rd.mk m1 rfl) (Rd.mk m0 rfl) ⟨rfl, H.drop.drop.drop⟩

set_option maxHeartbeats 1000000 in
theorem read_spec [Strm] (s : St) (page : Int) (b : Nat) (A : List (Nat × Obj)) (hQl : s.Q.length ≤ 1000000) (w : World) (F : List (Nat × Obj)) (hA : HoldS b s A) (H : SL w (A ++ F)) :
    Does Tryd.prog 5 #[.pointer (some ⟨b, 0, none⟩), .int .i64 page] w fun r w' => ∃ v B, r = .tuple #[v, EV (s.read page).2] ∧ Slc gB 1 5 v (s.read page).1 B ∧ SL w' (B ++ (A ++ F)) := by
  refine Does.intro (args := [_, _]) (e := [(0, _), (1, _)]) Tryd.func5 rfl Tryd.ntmps5 rfl rfl ?_
  repeat (first | refine RunsE.seq ?_ | refine RunsE.skip ?_ | refine RunsE.block ?_ | refine RunsE.inBlock ?_ | refine RunsE.yes rfl ?_ | refine RunsE.no rfl ?_ | refine RunsE.exit rfl ?_)
  repeat (first | refine RunsE.seq ?_ | refine RunsE.skip ?_ | refine RunsE.block ?_ | refine RunsE.inBlock ?_ | refine RunsE.yes rfl ?_ | refine RunsE.no rfl ?_ | refine RunsE.exit rfl ?_)
  refine RunsE.region ?_
  refine OpsE.ex (Ex.box H rfl) rfl ?_; (try clear H); rintro _ w ⟨b3, rfl, H⟩; simp only [Value.cells] at H; replace H := H.mid
  refine OpsE.ex (Ex.alloc (zv := .slice none 0 0) H (by kernel_rfl)) rfl ?_; (try clear H); rintro _ w ⟨b4, rfl, H⟩; simp only [Value.cells] at H; replace H := H.mid
  refine OpsE.ex (Ex.alloc (zv := .nilIface) H (by kernel_rfl)) rfl ?_; (try clear H); rintro _ w ⟨b5, rfl, H⟩; simp only [Value.cells] at H; replace H := H.mid
  refine OpsE.nil ?_
  repeat refine RunsE.seq ?_
  refine RunsE.join (fun _ : Unit => [(0, .pointer (some ⟨b, 0, none⟩)), (3, .pointer (some ⟨b3, 0, none⟩)), (4, .pointer (some ⟨b4, 0, none⟩)), (5, .pointer (some ⟨b5, 0, none⟩))])
    (fun _ w => SL w ((b5, .cells #[.nilIface] 26 (0, 0)) :: (b4, .cells #[.slice none 0 0] 24 (0, 0)) :: (b3, .cells #[.int .i64 page] 3 (0, 0)) :: (A ++ F)) ∧ s.has page = true ∧ s.down = false) (fun next => ?_) ?_
  · by_cases h1 : s.has page = true
    ·
      repeat (first | refine RunsE.seq ?_ | refine RunsE.skip ?_ | refine RunsE.block ?_ | refine RunsE.inBlock ?_ | refine RunsE.yes rfl ?_ | refine RunsE.no rfl ?_ | refine RunsE.exit rfl ?_)
      refine RunsE.region ?_
      refine OpsE.ev (Ev.move rfl) rfl ?_
      refine OpsE.ev (Ev.load H rfl (by kernel_rfl) (Rd.right (Rd.mk m2 rfl))) rfl ?_
      refine OpsE.ex (Ex.call rfl Tryd.call23 (is_spec s page b A w _ hA H)) rfl ?_; (try clear H); rintro _ w ⟨rfl, H⟩
      refine OpsE.ev (Ev.not rfl) rfl ?_
      refine OpsE.ev (Ev.assign rfl) rfl ?_
      refine OpsE.nil ?_
      repeat refine RunsE.seq ?_
      refine RunsE.no (by rw [h1]; rfl) ?_
      replace H := H.unmid3
      obtain ⟨rb, pv, qv, ql, Bq, D, hp, hq, hQ, ok⟩ := hA
      rw [List.cons_append] at H
      repeat (first | refine RunsE.seq ?_ | refine RunsE.skip ?_ | refine RunsE.block ?_ | refine RunsE.inBlock ?_ | refine RunsE.yes rfl ?_ | refine RunsE.no rfl ?_ | refine RunsE.exit rfl ?_)
      refine RunsE.region ?_
      refine OpsE.ev (Ev.move rfl) rfl ?_
      refine OpsE.ev (Ev.nilCheck rfl) rfl ?_
      refine OpsE.ev (Ev.fieldAddr (o := 4) rfl (by kernel_rfl)) rfl ?_
      refine OpsE.ev (Ev.load H rfl (by kernel_rfl) (Rd.mk m3 rfl)) rfl ?_
      refine OpsE.ev (Ev.assign rfl) rfl ?_
      refine OpsE.nil ?_
      by_cases h3 : s.down = true
      · repeat refine RunsE.seq ?_
        refine RunsE.yes (by rw [h3]; rfl) ?_
        repeat (first | refine RunsE.seq ?_ | refine RunsE.skip ?_ | refine RunsE.block ?_ | refine RunsE.inBlock ?_ | refine RunsE.yes rfl ?_ | refine RunsE.no rfl ?_ | refine RunsE.exit rfl ?_)
        refine RunsE.region ?_
        refine OpsE.ev (Ev.makeInterface (d := (.int .i64)) rfl (by kernel_rfl) rfl) rfl ?_
        refine OpsE.exn (Ex.store1 H rfl rfl (by kernel_rfl) rfl u1 (by simp) (Thaw.zero _ _) rfl) ?_; (try clear H); intro _ w H
        refine OpsE.exn (Ex.store1 H rfl rfl (by kernel_rfl) rfl u0 (by simp) (Thaw.zero _ _) rfl) ?_; (try clear H); intro _ w H
        refine OpsE.nil ?_
        repeat (first | refine RunsE.seq ?_ | refine RunsE.skip ?_ | refine RunsE.block ?_ | refine RunsE.inBlock ?_ | refine RunsE.yes rfl ?_ | refine RunsE.no rfl ?_ | refine RunsE.exit rfl ?_)
        exact RunsE.ret2Cells H Tryd.func5 rfl rfl rfl (by kernel_rfl) (by kernel_rfl) (Rd.mk m1 rfl) (Rd.mk m0 rfl) ⟨_, [], by rw [read_down h1 h3]; rfl, by rw [read_down h1 h3]; exact .nil, H.drop.drop.drop⟩
      · have h3' : s.down = false := by simpa using h3
        repeat refine RunsE.seq ?_
        refine RunsE.no (by rw [h3']; rfl) ?_
        refine RunsE.skip ?_
        refine RunsE.inBlock ?_
        exact next () _ _ ⟨H, h1, h3'⟩ ⟨rfl, rfl, rfl, rfl, trivial⟩
    · have h1' : s.has page = false := by simpa using h1
      repeat (first | refine RunsE.seq ?_ | refine RunsE.skip ?_ | refine RunsE.block ?_ | refine RunsE.inBlock ?_ | refine RunsE.yes rfl ?_ | refine RunsE.no rfl ?_ | refine RunsE.exit rfl ?_)
      refine RunsE.region ?_
      refine OpsE.ev (Ev.move rfl) rfl ?_
      refine OpsE.ev (Ev.load H rfl (by kernel_rfl) (Rd.right (Rd.mk m2 rfl))) rfl ?_
      refine OpsE.ex (Ex.call rfl Tryd.call23 (is_spec s page b A w _ hA H)) rfl ?_; (try clear H); rintro _ w ⟨rfl, H⟩
      refine OpsE.ev (Ev.not rfl) rfl ?_
      refine OpsE.ev (Ev.assign rfl) rfl ?_
      refine OpsE.nil ?_
      repeat refine RunsE.seq ?_
      refine RunsE.yes (by rw [h1']; rfl) ?_
      replace H := H.unmid3
      repeat (first | refine RunsE.seq ?_ | refine RunsE.skip ?_ | refine RunsE.block ?_ | refine RunsE.inBlock ?_ | refine RunsE.yes rfl ?_ | refine RunsE.no rfl ?_ | refine RunsE.exit rfl ?_)
      refine RunsE.region ?_
      refine OpsE.ev (Ev.makeInterface (d := (.int .i64)) rfl (by kernel_rfl) rfl) rfl ?_
      refine OpsE.exn (Ex.store1 H rfl rfl (by kernel_rfl) rfl u1 (by simp) (Thaw.zero _ _) rfl) ?_; (try clear H); intro _ w H
      refine OpsE.exn (Ex.store1 H rfl rfl (by kernel_rfl) rfl u0 (by simp) (Thaw.zero _ _) rfl) ?_; (try clear H); intro _ w H
      refine OpsE.nil ?_
      repeat (first | refine RunsE.seq ?_ | refine RunsE.skip ?_ | refine RunsE.block ?_ | refine RunsE.inBlock ?_ | refine RunsE.yes rfl ?_ | refine RunsE.no rfl ?_ | refine RunsE.exit rfl ?_)
      exact RunsE.ret2Cells H Tryd.func5 rfl rfl rfl (by kernel_rfl) (by kernel_rfl) (Rd.mk m1 rfl) (Rd.mk m0 rfl) ⟨_, [], by rw [read_has h1']; rfl, by rw [read_has h1']; exact .nil, H.drop.drop.drop⟩
  · clear H
    rintro _ w ⟨H, h1, h3⟩
    obtain ⟨p, rfl, hp1⟩ := has_nat h1
    rw [read_up h1 h3, Int.toNat_natCast]
    obtain ⟨rb, pv, qv, ql, Bq, D, hp, hq, hQ, ok⟩ := hA
    obtain ⟨aq, cq, rfl, hcq⟩ := hq.leCap
    rw [List.cons_append] at H
    have hql := hQ.len
    repeat (first | refine RunsE.seq ?_ | refine RunsE.skip ?_ | refine RunsE.block ?_ | refine RunsE.inBlock ?_ | refine RunsE.yes rfl ?_ | refine RunsE.no rfl ?_ | refine RunsE.exit rfl ?_)
    refine RunsE.region ?_
    refine OpsE.ev (Ev.move rfl) rfl ?_
    refine OpsE.ev (Ev.nilCheck rfl) rfl ?_
    refine OpsE.ev (Ev.fieldAddr (o := 1) rfl (by kernel_rfl)) rfl ?_
    refine OpsE.ev (Ev.load H rfl (by kernel_rfl) (Rd.mk m3 rfl)) rfl ?_
    refine OpsE.ex (Ex.call rfl Tryd.call24 (back_spec _ ⟨_, _, _, rfl⟩ w _ H)) rfl ?_; (try clear H); rintro _ w ⟨c, rfl, H⟩
    refine OpsE.nil ?_
    obtain ⟨M, hM⟩ : ∃ M : Value → List (Nat × Obj), M = fun v => (c, .cells #[.slice aq ql.length cq] 60 (0, 0)) :: (b5, .cells #[.nilIface] 26 (0, 0)) :: (b4, .cells #[v] 24 (0, 0)) :: (b3, .cells #[.int .i64 (p : Int)] 3 (0, 0)) :: ((b, .cells #[.slice (some ⟨rb, 0, none⟩) s.P.length s.P.length, .slice aq ql.length cq, .int .i64 (s.left : Int), .bool s.armed, .bool s.down] 62 (0, 0)) :: ((rb, .cells pv.toArray 24 (0, 0)) :: (Bq ++ D) ++ F)) := ⟨_, rfl⟩
    replace H : SL w (M (.slice none 0 0)) := by rw [hM]; exact H
    repeat (first | refine RunsE.seq ?_ | refine RunsE.skip ?_ | refine RunsE.block ?_ | refine RunsE.inBlock ?_ | refine RunsE.yes rfl ?_ | refine RunsE.no rfl ?_ | refine RunsE.exit rfl ?_)
    refine RunsE.rangeFuncR (fun pe L2 => (pe = none ∧ (∀ i, i < ql.length → (s.Q.getD i (0, [])).1 ≠ p) ∧ L2 = M (.slice none 0 0)) ∨
        (pe = some .ret ∧ ∃ i v B, i < ql.length ∧ (s.Q.getD i (0, [])).1 = p ∧ (∀ j, i < j → j < ql.length → (s.Q.getD j (0, [])).1 ≠ p) ∧ Slc gB 1 5 v (s.Q.getD i (0, [])).2 B ∧ L2 = B ++ M v))
      H rfl Tryd.call34 (fun r l Dd w1 e1 e2 e3 e4 e5 e6 hfit H => ?_) (fun pe L2 Dd w hJ H => ?_)
    · refine Does.mono (backiter_spec r l c aq cq ql Bq ((Dd, .deferred (some [])) :: M (.slice none 0 0)) (fun i => (s.Q.getD i (0, [])).1 = p)
        (fun i w' => ∃ v B, (s.Q.getD i (0, [])).1 = p ∧ Slc gB 1 5 v (s.Q.getD i (0, [])).2 B ∧ SL w' ((l, .loop { r with state := .done, pending := some .ret }) :: (Dd, .deferred (some [])) :: (B ++ M v)))
        hq (by omega) (by rw [e4]; rfl) (by rw [hM]; exact Rd.mk m1 rfl) (fun x hx => by rw [hM]; simp [hx]) (fun i q w hiq H => ?_) w1 H) ?_
      · have hil : i < ql.length := by
          rcases Nat.lt_or_ge i ql.length with h | h
          · exact h
          · rw [List.getElem?_eq_none h] at hiq; cases hiq
        obtain ⟨hq2, hq3⟩ := hQ.el i q hiq
        have hqm : s.Q.getD i (0, []) ∈ s.Q := getD_mem (by omega)
        have hqs := ok.qsz _ hqm
        rw [e3, e4, e5, e6]
        refine Round.mk (Fits.two (a := 25) (b := 26) hfit rfl rfl _ _) ?_
        repeat (first | refine RunsE.seq ?_ | refine RunsE.skip ?_ | refine RunsE.block ?_ | refine RunsE.inBlock ?_ | refine RunsE.yes rfl ?_ | refine RunsE.no rfl ?_ | refine RunsE.exit rfl ?_)
        refine RunsE.region ?_
        refine OpsE.ex (Ex.alloc (zv := .agg #[.int .i64 0, .slice none 0 0]) H (by kernel_rfl)) rfl ?_; (try clear H); rintro _ w ⟨b7, rfl, H⟩; simp only [Value.cells] at H
        refine OpsE.exn (Ex.storeBlk (n := 2) (vs := gQ q) H rfl rfl (by kernel_rfl) rfl (by simp [Value.oneCell']) u0 rfl (Thaw.zero _ _)) ?_; (try clear H); intro _ w H
        refine OpsE.nil ?_
        refine RunsE.beginRound H u1 e1 fun w H => ?_
        have hMr : M (.slice none 0 0) = (c, .cells #[.slice aq ql.length cq] 60 (0, 0)) :: (b5, .cells #[.nilIface] 26 (0, 0)) :: (b4, .cells #[.slice none 0 0] 24 (0, 0)) :: (b3, .cells #[.int .i64 (p : Int)] 3 (0, 0)) :: ((b, .cells #[.slice (some ⟨rb, 0, none⟩) s.P.length s.P.length, .slice aq ql.length cq, .int .i64 (s.left : Int), .bool s.armed, .bool s.down] 62 (0, 0)) :: ((rb, .cells pv.toArray 24 (0, 0)) :: (Bq ++ D) ++ F)) := by rw [hM]
        rw [hMr] at H
        repeat (first | refine RunsE.seq ?_ | refine RunsE.skip ?_ | refine RunsE.block ?_ | refine RunsE.inBlock ?_ | refine RunsE.yes rfl ?_ | refine RunsE.no rfl ?_ | refine RunsE.exit rfl ?_)
        refine RunsE.region ?_
        refine OpsE.ev (Ev.fieldAddr (o := 0) rfl (by kernel_rfl)) rfl ?_
        refine OpsE.ev (Ev.load H rfl (by kernel_rfl) (by first | exact Rd.mk m0 rfl | exact Rd.mk m1 rfl | exact Rd.mk m2 rfl | exact Rd.mk m3 rfl | assumption)) rfl ?_
        refine OpsE.ev (Ev.load H rfl (by kernel_rfl) (Rd.mk m6 rfl)) rfl ?_
        refine OpsE.ev (Ev.eql (r := decide (q.1 = p)) rfl rfl (by rw [Bool.eq_iff_iff, beq_iff_eq, decide_eq_true_iff]; omega)) rfl ?_
        refine OpsE.nil ?_
        by_cases hqp : q.1 = p
        · repeat refine RunsE.seq ?_
          refine RunsE.yes (by rw [decide_eq_true hqp]; rfl) ?_
          repeat (first | refine RunsE.seq ?_ | refine RunsE.skip ?_ | refine RunsE.block ?_ | refine RunsE.inBlock ?_ | refine RunsE.yes rfl ?_ | refine RunsE.no rfl ?_ | refine RunsE.exit rfl ?_)
          refine RunsE.region ?_
          refine OpsE.ev (Ev.fieldAddr (o := 1) rfl (by kernel_rfl)) rfl ?_
          refine OpsE.ev (Ev.load H rfl (by kernel_rfl) (by first | exact Rd.mk m0 rfl | exact Rd.mk m1 rfl | exact Rd.mk m2 rfl | exact Rd.mk m3 rfl | assumption)) rfl ?_
          refine OpsE.ex (Ex.call rfl Tryd.call25 (clone_spec _ _ (by omega) w _ (hq3.sub fun p hp => by simp [hp]) H)) rfl ?_; (try clear H); rintro _ w ⟨B, hs, H⟩; obtain ⟨a', c', rfl⟩ := hs.len
          refine OpsE.exn (Ex.store1 H rfl rfl (by kernel_rfl) rfl (Upd.skip u5 B) (by simp) (Thaw.zero _ _) rfl) ?_; (try clear H); intro _ w H
          refine OpsE.exn (Ex.store1 H rfl rfl (by kernel_rfl) rfl (Upd.skip u4 B) (by simp) (Thaw.zero _ _) rfl) ?_; (try clear H); intro _ w H
          refine OpsE.nil ?_
          repeat (first | refine RunsE.seq ?_ | refine RunsE.skip ?_ | refine RunsE.block ?_ | refine RunsE.inBlock ?_ | refine RunsE.yes rfl ?_ | refine RunsE.no rfl ?_ | refine RunsE.exit rfl ?_)
          refine RunsE.roundRet H (Upd.skip u1 B) fun w H => ⟨false, ⟨rfl, ⟨fun h => (nomatch h), fun _ => ⟨_, B, by rw [← hq2]; exact hqp, hs, ?_⟩⟩⟩⟩
          rw [hM]
          have H' := H.unmid.drop.unmid2
          simp only [e3, e4, e5, e6] at H'
          exact H'
        · repeat refine RunsE.seq ?_
          refine RunsE.no (by rw [decide_eq_false hqp]; rfl) ?_
          refine RunsE.skip ?_
          refine RunsE.inBlock ?_
          refine RunsE.roundEnd H u1 fun w H => ⟨true, ⟨rfl, ⟨fun _ => ⟨by rw [← hq2]; exact hqp, ?_⟩, fun h => (nomatch h)⟩⟩⟩
          rw [hM]
          have er : ({ ({ r with state := .busy } : Loop) with state := .ready, pending := none } : Loop) = r := by cases r; simp only at e1 e2; subst e1 e2; rfl
          rw [er] at H
          exact H.drop
      · rintro _ w4 (⟨H, hn⟩ | ⟨i, hi, hn, v, B, h4, hs, H⟩)
        · refine ⟨.ready, none, _, by simp, .inl ⟨rfl, hn, rfl⟩, ?_⟩
          have er : ({ r with state := .ready, pending := none } : Loop) = r := by cases r; simp only at e1 e2; subst e1 e2; rfl
          rw [er]
          exact H
        · exact ⟨.done, some .ret, _, by simp, .inr ⟨rfl, i, v, B, hi, h4, hn, hs, rfl⟩, H⟩
    · rcases hJ with ⟨rfl, hn, rfl⟩ | ⟨rfl, i, v, B, hi, h4, hn, hs, rfl⟩
      · have hpg : s.page p = s.P.getD p [] := by rw [St.page, lastW_none _ fun i hi => hn i (by omega)]; rfl
        have hpl := hp.len
        obtain ⟨u, hu⟩ : ∃ u, pv[p]? = some u := ⟨pv[p]'(by omega), by simp [show p < pv.length by omega]⟩
        have hin := hp.el p u hu
        have hsz := ok.psz _ (getD_mem (d := []) hp1)
        obtain ⟨au, cu, rfl, _⟩ := hin.len
        rw [hM] at H
        refine RunsE.inBlock ?_
        repeat (first | refine RunsE.seq ?_ | refine RunsE.skip ?_ | refine RunsE.block ?_ | refine RunsE.inBlock ?_ | refine RunsE.yes rfl ?_ | refine RunsE.no rfl ?_ | refine RunsE.exit rfl ?_)
        refine RunsE.drawS H [8, 9] (by kernel_rfl) ?_; (try clear H); intro w H
        refine OpsD.take 0 rfl (by kernel_rfl) (by first | exact H | exact H.drop | exact H.drop.drop | exact H.dropL | exact H.drop.dropL | exact H.dropL.dropL) (fun w H => Ev.move rfl) rfl ?_
        refine OpsD.take 1 rfl (by kernel_rfl) (by first | exact H | exact H.drop | exact H.drop.drop | exact H.dropL | exact H.drop.dropL | exact H.dropL.dropL) (fun w H => Ev.nilCheck rfl) rfl ?_
        refine OpsD.take 2 rfl (by kernel_rfl) (by first | exact H | exact H.drop | exact H.drop.drop | exact H.dropL | exact H.drop.dropL | exact H.dropL.dropL) (fun w H => Ev.fieldAddr (o := 0) rfl (by kernel_rfl)) rfl ?_
        refine OpsD.take 3 rfl (by kernel_rfl) (by first | exact H | exact H.drop | exact H.drop.drop | exact H.dropL | exact H.drop.dropL | exact H.dropL.dropL) (fun w H => Ev.load H rfl (by kernel_rfl) (Rd.mk m5 rfl)) rfl ?_
        refine OpsD.take 4 rfl (by kernel_rfl) (by first | exact H | exact H.drop | exact H.drop.drop | exact H.dropL | exact H.drop.dropL | exact H.dropL.dropL) (fun w H => Ev.load H rfl (by kernel_rfl) (Rd.mk m4 rfl)) rfl ?_
        refine OpsD.take 5 rfl (by kernel_rfl) (by first | exact H | exact H.drop | exact H.drop.drop | exact H.dropL | exact H.drop.dropL | exact H.dropL.dropL) (fun w H => Ev.iaSl (n := 24) (sz := 1) (m := p) rfl rfl rfl (by kernel_rfl) hp1) rfl ?_
        refine OpsD.take 6 rfl (by kernel_rfl) (by first | exact H | exact H.drop | exact H.drop.drop | exact H.dropL | exact H.drop.dropL | exact H.dropL.dropL) (fun w H => Ev.load H rfl (by kernel_rfl) (Rd.mk m6 (by simpa using hu))) rfl ?_
        refine OpsD.one 7 (by kernel_rfl) (StepD.ex rfl (Ex.call rfl Tryd.call25 (clone_spec _ _ (by omega) w _ (hin.sub fun p hp => by simp [hp]) H)) rfl ?_); (try clear H); rintro _ w ⟨B, hs, H⟩; obtain ⟨a', c', rfl⟩ := hs.len; refine ⟨(by first | exact H | exact H.drop | exact H.drop.drop | exact H.dropL | exact H.drop.dropL | exact H.dropL.dropL), ?_⟩
        refine OpsD.one 8 (by kernel_rfl) (StepD.exnT rfl rfl (Ex.store1 H rfl rfl (by kernel_rfl) rfl (Upd.skip u3 B) (by simp) (Thaw.zero _ _) rfl) ?_); (try clear H); intro _ w H
        refine OpsD.one 9 (by kernel_rfl) (StepD.exnT rfl rfl (Ex.store1 H rfl rfl (by kernel_rfl) rfl (Upd.skip u2 B) (by simp) (Thaw.zero _ _) rfl) ?_); (try clear H); intro _ w H
        refine OpsD.done (by kernel_rfl) ?_
        repeat (first | refine RunsE.seq ?_ | refine RunsE.skip ?_ | refine RunsE.block ?_ | refine RunsE.inBlock ?_ | refine RunsE.yes rfl ?_ | refine RunsE.no rfl ?_ | refine RunsE.exit rfl ?_)
        refine RunsE.ret2CellsM H (Upd.skip u0 B) Tryd.func5 rfl rfl rfl (by kernel_rfl) (by kernel_rfl) (Rd.right (Rd.mk m3 rfl)) (Rd.right (Rd.mk m2 rfl)) fun w H => ⟨_, B, rfl, by rw [hpg]; exact hs, ?_⟩
        exact H.dropMid.dropMid.dropMid.dropMid.dropMid
      · have hpg : s.page p = (s.Q.getD i (0, [])).2 := by rw [St.page, lastW_some h4 s.Q.length (by omega) fun j h1 h2 => hn j h1 (by omega)]; rfl
        rw [hM] at H
        refine RunsE.ret2CellsM H u0 Tryd.func5 rfl rfl rfl (by kernel_rfl) (by kernel_rfl) (Rd.tail (Rd.right (Rd.mk m2 rfl))) (Rd.tail (Rd.right (Rd.mk m1 rfl))) fun w H => ⟨_, B, rfl, by rw [hpg]; exact hs, ?_⟩
        exact H.drop.dropMid.dropMid.dropMid.dropMid

end Go.Proofs.YtoiehgiokfnmkaaDoor
