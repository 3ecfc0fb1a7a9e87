/-
  The book: All, Has, Sums, Len.
-/
import Derived.Test.YtniihnncgblocaaDoorOathC
namespace Go.Proofs.YtniihnncgblocaaDoor.V

theorem ZIn.at {X : List (Nat × Obj)} {a : Option Addr} {n c i : Nat} {zs : List Int} (h : ZIn X (.slice a n c) zs) (hi : i < zs.length) : ∃ b off, a = some ⟨b, off, none⟩ ∧ Rd X ⟨b, off + i, none⟩ (.int .i64 (zs.getD i 0)) := by
  obtain ⟨b, off, v, h1, h2, h3⟩ := Els.at h (i := i) (x := zs.getD i 0) (by simp [List.getD_eq_getElem?_getD, hi])
  subst h3
  exact ⟨b, off, h1, h2⟩

theorem ZIn.sub {X X' : List (Nat × Obj)} {v : Value} {zs : List Int} (h : ZIn X v zs) (hs : ∀ p ∈ X, p ∈ X') : ZIn X' v zs := Els.sub h hs fun _ _ h => h
theorem ZIn.of {X : List (Nat × Obj)} {v : Value} {zs : List Int} (h : IntsIn .i64 X v zs) : ZIn X v zs := Els.sub h (fun _ h => h) fun _ _ h => h.1
theorem ZIn.one {X : List (Nat × Obj)} {b : Nat} {z : Int} {T : TypeId} (hm : (b, Obj.cells #[.int .i64 z] T (0, 0)) ∈ X) : ZIn X (.slice (some ⟨b, 0, none⟩) 1 1) [z] :=
  .blk b 0 1 [z] (by simp) fun i x hi => by
    cases i with
    | zero => simp at hi; subst hi; exact ⟨_, Rd.mk hm rfl, rfl⟩
    | succ i => simp at hi

end Go.Proofs.YtniihnncgblocaaDoor.V
namespace Go.Proofs.YtniihnncgblocaaDoor
open Go.Proofs.YtniihnncgblocaaDoor.V

/-- Whether a number is none of these. -/
def outW (ws : List Nat) (z : Int) : Bool := !(ws.any fun k => decide ((k : Int) = z))

theorem allfn_spec [Strm] (z : Int) (p : Nat) (v : Value) (ws : List Nat) (hx : ws.length ≤ 1000) (w : World) (X : List (Nat × Obj)) (hp : Rd X ⟨p, 0, none⟩ v) (hs : RdS X 1 v ws.length (ws.flatMap gW)) (H : SL w X) :
    Does Tryd.prog 26 #[.int .i64 z, .pointer (some ⟨p, 0, none⟩)] w fun r w' => r = .bool (outW ws z) ∧ SL w' X := by
  refine Does.intro (args := [_, _]) (e := [(0, _), (1, _)]) Tryd.func26 rfl Tryd.ntmps26 rfl rfl ?_
  repeat (first | refine RunsE.seq ?_ | refine RunsE.skip ?_ | refine RunsE.block ?_ | refine RunsE.inBlock ?_ | refine RunsE.yes rfl ?_ | refine RunsE.no rfl ?_ | refine RunsE.exit rfl ?_)
  repeat (first | refine RunsE.seq ?_ | refine RunsE.skip ?_ | refine RunsE.block ?_ | refine RunsE.inBlock ?_ | refine RunsE.yes rfl ?_ | refine RunsE.no rfl ?_ | refine RunsE.exit rfl ?_)
  refine RunsE.region ?_
  refine OpsE.ev (Ev.assign rfl) rfl ?_
  refine OpsE.nil ?_
  repeat (first | refine RunsE.seq ?_ | refine RunsE.skip ?_ | refine RunsE.block ?_ | refine RunsE.inBlock ?_ | refine RunsE.yes rfl ?_ | refine RunsE.no rfl ?_ | refine RunsE.exit rfl ?_)
  refine RunsE.region ?_
  refine OpsE.ev (Ev.load H rfl (by kernel_rfl) hp) rfl ?_
  refine OpsE.ev (Ev.move rfl) rfl ?_
  refine OpsE.ex (Ex.call rfl Tryd.call27 (wcontains_spec v ws z (by omega) w _ hs H)) rfl ?_; (try clear H); rintro _ w ⟨rfl, H⟩
  refine OpsE.ev (Ev.not rfl) rfl ?_
  refine OpsE.ev (Ev.assign rfl) rfl ?_
  refine OpsE.nil ?_
  repeat (first | refine RunsE.seq ?_ | refine RunsE.skip ?_ | refine RunsE.block ?_ | refine RunsE.inBlock ?_ | refine RunsE.yes rfl ?_ | refine RunsE.no rfl ?_ | refine RunsE.exit rfl ?_)
  exact RunsE.ret1 Tryd.func26 rfl rfl ⟨rfl, H⟩

theorem indexfn_spec [Strm] (v : Value) (zs : List Int) (p : Nat) (u : Value) (ws : List Nat) (hz : zs.length ≤ 1000000) (hx : ws.length ≤ 1000) (w : World) (X : List (Nat × Obj)) (hv : ZIn X v zs) (hp : Rd X ⟨p, 0, none⟩ u) (hs : RdS X 1 u ws.length (ws.flatMap gW)) (H : SL w X) :
    Does Tryd.prog 34 #[v, .func (.func 26) #[] #[.pointer (some ⟨p, 0, none⟩)]] w fun r w' => ∃ i : Int, r = .int .i64 i ∧ decide (i ≥ 0) = zs.any (outW ws) ∧ SL w' X := by
  obtain ⟨a, cp, rfl, hcp⟩ := hv.len
  refine Does.intro (args := [_, _]) (e := [(0, _), (1, _)]) Tryd.func34 rfl Tryd.ntmps34 rfl rfl ?_
  repeat (first | refine RunsE.seq ?_ | refine RunsE.skip ?_ | refine RunsE.block ?_ | refine RunsE.inBlock ?_ | refine RunsE.yes rfl ?_ | refine RunsE.no rfl ?_ | refine RunsE.exit rfl ?_)
  repeat (first | refine RunsE.seq ?_ | refine RunsE.skip ?_ | refine RunsE.block ?_ | refine RunsE.inBlock ?_ | refine RunsE.yes rfl ?_ | refine RunsE.no rfl ?_ | refine RunsE.exit rfl ?_)
  refine RunsE.region ?_
  refine OpsE.ev (Ev.assign rfl) rfl ?_
  refine OpsE.nil ?_
  repeat (first | refine RunsE.seq ?_ | refine RunsE.skip ?_ | refine RunsE.block ?_ | refine RunsE.inBlock ?_ | refine RunsE.yes rfl ?_ | refine RunsE.no rfl ?_ | refine RunsE.exit rfl ?_)
  refine RunsE.region ?_
  refine OpsE.ev (Ev.move rfl) rfl ?_
  refine OpsE.ev (Ev.lenSl (d := 3) rfl rfl (by kernel_rfl)) rfl ?_
  refine OpsE.ev (Ev.move rfl) rfl ?_
  refine OpsE.nil ?_
  repeat refine RunsE.seq ?_
  refine RunsE.join (fun _ : Unit => []) (fun _ w => (∀ k, k < zs.length → outW ws (zs.getD k 0) = false) ∧ SL w X) (fun next => ?_) ?_
  · refine RunsE.block ?_
    refine RunsE.loop (fun i : Nat => [(0, .slice a zs.length cp), (1, .func (.func 26) #[] #[.pointer (some ⟨p, 0, none⟩)]), (7, .int .i64 (zs.length : Int)), (8, .int .i64 (i : Int))])
      (fun i w => i ≤ zs.length ∧ (∀ k, k < i → outW ws (zs.getD k 0) = false) ∧ SL w X) (fun i => zs.length - i) 0 ⟨rfl, rfl, rfl, rfl, trivial⟩ ⟨by omega, fun k h => by omega, H⟩ ?_
    clear H
    rintro i w ⟨hi, hne, H⟩ nextL
    by_cases h1 : i = zs.length
    ·
      repeat (first | refine RunsE.seq ?_ | refine RunsE.skip ?_ | refine RunsE.block ?_ | refine RunsE.inBlock ?_ | refine RunsE.yes rfl ?_ | refine RunsE.no rfl ?_ | refine RunsE.exit rfl ?_)
      refine RunsE.region ?_
      refine OpsE.ev (Ev.lss (r := false) rfl rfl (decide_eq_false (by omega))) rfl ?_
      refine OpsE.nil ?_
      repeat refine RunsE.seq ?_
      refine RunsE.no rfl ?_
      refine RunsE.exit rfl ?_
      exact next () _ _ ⟨fun k hk => hne k (by omega), H⟩ trivial
    clear next
    have hi' : i < zs.length := by omega
    obtain ⟨b, off, rfl, hrd⟩ := ZIn.at hv hi'
    repeat (first | refine RunsE.seq ?_ | refine RunsE.skip ?_ | refine RunsE.block ?_ | refine RunsE.inBlock ?_ | refine RunsE.yes rfl ?_ | refine RunsE.no rfl ?_ | refine RunsE.exit rfl ?_)
    refine RunsE.region ?_
    refine OpsE.ev (Ev.lss (r := true) rfl rfl (decide_eq_true (by omega))) rfl ?_
    refine OpsE.nil ?_
    repeat (first | refine RunsE.seq ?_ | refine RunsE.skip ?_ | refine RunsE.block ?_ | refine RunsE.inBlock ?_ | refine RunsE.yes rfl ?_ | refine RunsE.no rfl ?_ | refine RunsE.exit rfl ?_)
    refine RunsE.region ?_
    refine OpsE.ev (Ev.move rfl) rfl ?_
    refine OpsE.ev (Ev.assign rfl) rfl ?_
    refine OpsE.nil ?_
    repeat (first | refine RunsE.seq ?_ | refine RunsE.skip ?_ | refine RunsE.block ?_ | refine RunsE.inBlock ?_ | refine RunsE.yes rfl ?_ | refine RunsE.no rfl ?_ | refine RunsE.exit rfl ?_)
    refine RunsE.region ?_
    refine OpsE.ev (Ev.move rfl) rfl ?_
    refine OpsE.ev (Ev.move rfl) rfl ?_
    refine OpsE.ev (Ev.move rfl) rfl ?_
    refine OpsE.ev (Ev.iaSl (n := 3) (sz := 1) (m := i) (o := off + i) rfl rfl rfl (by kernel_rfl) (by omega) (by omega)) rfl ?_
    refine OpsE.ev (Ev.load H rfl (by kernel_rfl) hrd) rfl ?_
    refine OpsE.ex (Ex.callv rfl rfl Tryd.call26 (allfn_spec _ p u ws hx w _ hp hs H)) rfl ?_; (try clear H); rintro _ w ⟨rfl, H⟩
    refine OpsE.nil ?_
    cases h2 : outW ws (zs.getD i 0) with
    | true =>
      repeat refine RunsE.seq ?_
      refine RunsE.yes rfl ?_
      repeat (first | refine RunsE.seq ?_ | refine RunsE.skip ?_ | refine RunsE.block ?_ | refine RunsE.inBlock ?_ | refine RunsE.yes rfl ?_ | refine RunsE.no rfl ?_ | refine RunsE.exit rfl ?_)
      refine RunsE.region ?_
      refine OpsE.ev (Ev.move rfl) rfl ?_
      refine OpsE.ev (Ev.assign rfl) rfl ?_
      refine OpsE.nil ?_
      repeat (first | refine RunsE.seq ?_ | refine RunsE.skip ?_ | refine RunsE.block ?_ | refine RunsE.inBlock ?_ | refine RunsE.yes rfl ?_ | refine RunsE.no rfl ?_ | refine RunsE.exit rfl ?_)
      refine RunsE.ret1 Tryd.func34 rfl rfl ⟨_, rfl, ?_, H⟩
      rw [decide_eq_true (by omega), eq_comm, List.any_eq_true]
      exact ⟨_, List.mem_of_getElem? (i := i) (by simp [List.getD_eq_getElem?_getD, hi']), h2⟩
    | false =>
      repeat refine RunsE.seq ?_
      refine RunsE.no rfl ?_
      repeat (first | refine RunsE.seq ?_ | refine RunsE.skip ?_ | refine RunsE.block ?_ | refine RunsE.inBlock ?_ | refine RunsE.yes rfl ?_ | refine RunsE.no rfl ?_ | refine RunsE.exit rfl ?_)
      refine RunsE.region ?_
      refine OpsE.ev (Ev.add rfl rfl) rfl ?_
      refine OpsE.ev (Ev.move rfl) rfl ?_
      refine OpsE.nil ?_
      refine nextL (i + 1) _ _ (by omega) ⟨by omega, fun k hk => ?_, H⟩ ⟨rfl, rfl, rfl, rfl, trivial⟩
      rcases Nat.lt_or_eq_of_le (Nat.le_of_lt_succ hk) with h | h
      · exact hne k h
      · rw [h]; exact h2
  clear H
  rintro _ w ⟨hne, H⟩
  repeat (first | refine RunsE.seq ?_ | refine RunsE.skip ?_ | refine RunsE.block ?_ | refine RunsE.inBlock ?_ | refine RunsE.yes rfl ?_ | refine RunsE.no rfl ?_ | refine RunsE.exit rfl ?_)
  refine RunsE.region ?_
  refine OpsE.ev (Ev.assign rfl) rfl ?_
  refine OpsE.nil ?_
  repeat (first | refine RunsE.seq ?_ | refine RunsE.skip ?_ | refine RunsE.block ?_ | refine RunsE.inBlock ?_ | refine RunsE.yes rfl ?_ | refine RunsE.no rfl ?_ | refine RunsE.exit rfl ?_)
  refine RunsE.ret1 Tryd.func34 rfl rfl ⟨_, rfl, ?_, H⟩
  rw [decide_eq_false (by omega), eq_comm, List.any_eq_false]
  intro z hz
  obtain ⟨i, hi⟩ := List.getElem?_of_mem hz
  have hil : i < zs.length := by
    rcases Nat.lt_or_ge i zs.length with h | h
    · exact h
    · rw [List.getElem?_eq_none h] at hi; cases hi
  have := hne i hil
  rw [List.getD_eq_getElem?_getD, hi] at this
  rw [Option.getD_some] at this
  rw [this]
  exact Bool.false_ne_true

theorem containsfn_spec [Strm] (v : Value) (zs : List Int) (p : Nat) (u : Value) (ws : List Nat) (hz : zs.length ≤ 1000000) (hx : ws.length ≤ 1000) (w : World) (X : List (Nat × Obj)) (hv : ZIn X v zs) (hp : Rd X ⟨p, 0, none⟩ u) (hs : RdS X 1 u ws.length (ws.flatMap gW)) (H : SL w X) :
    Does Tryd.prog 25 #[v, .func (.func 26) #[] #[.pointer (some ⟨p, 0, none⟩)]] w fun r w' => r = .bool (zs.any (outW ws)) ∧ SL w' X := by
  refine Does.intro (args := [_, _]) (e := [(0, _), (1, _)]) Tryd.func25 rfl Tryd.ntmps25 rfl rfl ?_
  repeat (first | refine RunsE.seq ?_ | refine RunsE.skip ?_ | refine RunsE.block ?_ | refine RunsE.inBlock ?_ | refine RunsE.yes rfl ?_ | refine RunsE.no rfl ?_ | refine RunsE.exit rfl ?_)
  repeat (first | refine RunsE.seq ?_ | refine RunsE.skip ?_ | refine RunsE.block ?_ | refine RunsE.inBlock ?_ | refine RunsE.yes rfl ?_ | refine RunsE.no rfl ?_ | refine RunsE.exit rfl ?_)
  refine RunsE.region ?_
  refine OpsE.ev (Ev.assign rfl) rfl ?_
  refine OpsE.nil ?_
  repeat (first | refine RunsE.seq ?_ | refine RunsE.skip ?_ | refine RunsE.block ?_ | refine RunsE.inBlock ?_ | refine RunsE.yes rfl ?_ | refine RunsE.no rfl ?_ | refine RunsE.exit rfl ?_)
  refine RunsE.region ?_
  refine OpsE.ev (Ev.move rfl) rfl ?_
  refine OpsE.ev (Ev.move rfl) rfl ?_
  refine OpsE.ex (Ex.call rfl Tryd.call34 (indexfn_spec v zs p u ws hz hx w _ hv hp hs H)) rfl ?_; (try clear H); rintro _ w ⟨i, rfl, hi, H⟩
  refine OpsE.ev (Ev.geq (r := zs.any (outW ws)) rfl rfl hi) rfl ?_
  refine OpsE.ev (Ev.assign rfl) rfl ?_
  refine OpsE.nil ?_
  repeat (first | refine RunsE.seq ?_ | refine RunsE.skip ?_ | refine RunsE.block ?_ | refine RunsE.inBlock ?_ | refine RunsE.yes rfl ?_ | refine RunsE.no rfl ?_ | refine RunsE.exit rfl ?_)
  exact RunsE.ret1 Tryd.func25 rfl rfl ⟨rfl, H⟩

theorem outW_all {L : List Sg} (hL : Signs L) (h : Hash) (zs : List Int) : (!(zs.any (outW (whoOf L h)))) = zs.all fun z => hasZ L z h := by
  rw [List.not_any_eq_all_not]
  congr 1
  funext z
  rw [outW, Bool.not_not, whoOf_any hL]

theorem all_core [Strm] (q : Option Addr) (h : Hash) (ws : List Nat) (v : Value) (zs : List Int) (hz : zs.length ≤ 1000000) (hx : ws.length ≤ 1000) (w : World) (X : List (Nat × Obj)) (hv : ZIn X v zs)
    (hwho : ∀ w p, SL w (p :: X) → Does Tryd.prog 14 #[.pointer q, hV h.1] w fun r w' => ∃ B, SlW r ws B ∧ SL w' (B ++ (p :: X))) (H : SL w X) :
    Does Tryd.prog 9 #[.pointer q, v, hV h.1] w fun r w' => r = .bool (!(zs.any (outW ws))) ∧ SL w' X := by
  refine Does.intro (args := [_, _, _]) (e := [(0, _), (1, _), (2, _)]) Tryd.func9 rfl Tryd.ntmps9 rfl rfl ?_
  repeat (first | refine RunsE.seq ?_ | refine RunsE.skip ?_ | refine RunsE.block ?_ | refine RunsE.inBlock ?_ | refine RunsE.yes rfl ?_ | refine RunsE.no rfl ?_ | refine RunsE.exit rfl ?_)
  repeat (first | refine RunsE.seq ?_ | refine RunsE.skip ?_ | refine RunsE.block ?_ | refine RunsE.inBlock ?_ | refine RunsE.yes rfl ?_ | refine RunsE.no rfl ?_ | refine RunsE.exit rfl ?_)
  refine RunsE.region ?_
  refine OpsE.ex (Ex.box H rfl) rfl ?_; (try clear H); rintro _ w ⟨b5, rfl, H⟩; simp only [Value.cells] at H
  refine OpsE.ev (Ev.assign rfl) rfl ?_
  refine OpsE.nil ?_
  repeat (first | refine RunsE.seq ?_ | refine RunsE.skip ?_ | refine RunsE.block ?_ | refine RunsE.inBlock ?_ | refine RunsE.yes rfl ?_ | refine RunsE.no rfl ?_ | refine RunsE.exit rfl ?_)
  refine RunsE.region ?_
  refine OpsE.ev (Ev.move rfl) rfl ?_
  refine OpsE.ev (Ev.loadBlk (n := 32) (vs := gH h) H rfl (by kernel_rfl) (gH_len h) m0) rfl ?_
  refine OpsE.ex (Ex.call rfl Tryd.call14 (hwho w _ H)) rfl ?_; (try clear H); rintro u w ⟨B, hs, H⟩; obtain ⟨ao, co, rfl⟩ := hs.len
  refine OpsE.ex (Ex.alloc (zv := .slice none 0 0) H (by kernel_rfl)) rfl ?_; (try clear H); rintro _ w ⟨b7, rfl, H⟩; simp only [Value.cells] at H
  refine OpsE.exn (Ex.store1 (cs := #[.slice none 0 0]) H rfl rfl (by kernel_rfl) rfl u0 (by decide) (Thaw.zero _ _) rfl) ?_; (try clear H); intro _ w H
  refine OpsE.nil ?_
  repeat (first | refine RunsE.seq ?_ | refine RunsE.skip ?_ | refine RunsE.block ?_ | refine RunsE.inBlock ?_ | refine RunsE.yes rfl ?_ | refine RunsE.no rfl ?_ | refine RunsE.exit rfl ?_)
  refine RunsE.region ?_
  refine OpsE.ev (Ev.move rfl) rfl ?_
  refine OpsE.ev (Ev.makeFunc rfl rfl) rfl ?_
  refine OpsE.ex (Ex.call rfl Tryd.call25 (containsfn_spec v zs b7 _ ws hz hx w _ (hv.sub fun p hp => .tail _ (List.mem_append_right _ (.tail _ hp))) (Rd.mk m0 rfl) ((hs.rdS fun _ => rfl).sub fun p hp => .tail _ hp) H)) rfl ?_; (try clear H); rintro _ w ⟨rfl, H⟩
  refine OpsE.ev (Ev.not rfl) rfl ?_
  refine OpsE.ev (Ev.assign rfl) rfl ?_
  refine OpsE.nil ?_
  repeat (first | refine RunsE.seq ?_ | refine RunsE.skip ?_ | refine RunsE.block ?_ | refine RunsE.inBlock ?_ | refine RunsE.yes rfl ?_ | refine RunsE.no rfl ?_ | refine RunsE.exit rfl ?_)
  exact RunsE.ret1 Tryd.func9 rfl rfl ⟨rfl, H.drop.dropL.drop⟩

theorem nall_spec [Strm] (h : Hash) (v : Value) (zs : List Int) (hz : zs.length ≤ 1000000) (w : World) (X : List (Nat × Obj)) (hv : ZIn X v zs) (H : SL w X) :
    Does Tryd.prog 9 #[.pointer none, v, hV h.1] w fun r w' => r = .bool (!(zs.any (outW []))) ∧ SL w' X :=
  all_core none h [] v zs hz (by decide) w X hv (fun w p H => (nwho_spec h w _ H).mono fun r w' ⟨hr, H⟩ => ⟨[], by rw [hr]; exact .nil, H⟩) H

theorem all_spec [Strm] (b : Nat) (L : List Sg) (hL : Signs L) (h : Hash) (v : Value) (zs : List Int) (hz : zs.length ≤ 1000000) (A : List (Nat × Obj)) (w : World) (F : List (Nat × Obj)) (hA : BookH b L A) (hv : ZIn (A ++ F) v zs) (H : SL w (A ++ F)) :
    Does Tryd.prog 9 #[.pointer (some ⟨b, 0, none⟩), v, hV h.1] w fun r w' => r = .bool (zs.all fun z => hasZ L z h) ∧ SL w' (A ++ F) := by
  rw [← outW_all hL]
  exact all_core (some ⟨b, 0, none⟩) h (whoOf L h) v zs hz (by have := whoOf_len L h; omega) w _ hv (fun w p H => (who_spec b L h A w _ hA H.headL).mono fun r w' ⟨B, hs, H⟩ => ⟨B, hs, H.perm (List.perm_middle.symm.append_left B)⟩) H

theorem has_core [Strm] (q : Option Addr) (h : Hash) (z : Int) (r0 : Bool) (w : World) (X : List (Nat × Obj))
    (hall : ∀ w Y v, ZIn (Y ++ X) v [z] → SL w (Y ++ X) → Does Tryd.prog 9 #[.pointer q, v, hV h.1] w fun r w' => r = .bool r0 ∧ SL w' (Y ++ X)) (H : SL w X) :
    Does Tryd.prog 17 #[.pointer q, .int .i64 z, hV h.1] w fun r w' => r = .bool r0 ∧ SL w' X := by
  refine Does.intro (args := [_, _, _]) (e := [(0, _), (1, _), (2, _)]) Tryd.func17 rfl Tryd.ntmps17 rfl rfl ?_
  repeat (first | refine RunsE.seq ?_ | refine RunsE.skip ?_ | refine RunsE.block ?_ | refine RunsE.inBlock ?_ | refine RunsE.yes rfl ?_ | refine RunsE.no rfl ?_ | refine RunsE.exit rfl ?_)
  repeat (first | refine RunsE.seq ?_ | refine RunsE.skip ?_ | refine RunsE.block ?_ | refine RunsE.inBlock ?_ | refine RunsE.yes rfl ?_ | refine RunsE.no rfl ?_ | refine RunsE.exit rfl ?_)
  refine RunsE.region ?_
  refine OpsE.ex (Ex.box H rfl) rfl ?_; (try clear H); rintro _ w ⟨b5, rfl, H⟩; simp only [Value.cells] at H
  refine OpsE.ev (Ev.assign rfl) rfl ?_
  refine OpsE.nil ?_
  repeat (first | refine RunsE.seq ?_ | refine RunsE.skip ?_ | refine RunsE.block ?_ | refine RunsE.inBlock ?_ | refine RunsE.yes rfl ?_ | refine RunsE.no rfl ?_ | refine RunsE.exit rfl ?_)
  refine RunsE.region ?_
  refine OpsE.ev (Ev.move rfl) rfl ?_
  refine OpsE.ev (Ev.move rfl) rfl ?_
  refine OpsE.ex (Ex.buildSl (T := 3) (zv := .int .i64 0) H rfl (by kernel_rfl) (by kernel_rfl) (by simp [Value.oneCell']) rfl (by omega) (by omega)) rfl ?_; (try clear H); rintro _ w ⟨b9, rfl, H⟩
  refine OpsE.ev (Ev.loadBlk (n := 32) (vs := gH h) H rfl (by kernel_rfl) (gH_len h) m1) rfl ?_
  refine OpsE.ex (Ex.call rfl Tryd.call9 (hall w [_, _] _ (ZIn.one m0) H)) rfl ?_; (try clear H); rintro _ w ⟨rfl, H⟩
  refine OpsE.ev (Ev.assign rfl) rfl ?_
  refine OpsE.nil ?_
  repeat (first | refine RunsE.seq ?_ | refine RunsE.skip ?_ | refine RunsE.block ?_ | refine RunsE.inBlock ?_ | refine RunsE.yes rfl ?_ | refine RunsE.no rfl ?_ | refine RunsE.exit rfl ?_)
  exact RunsE.ret1 Tryd.func17 rfl rfl ⟨rfl, H.dropL⟩

theorem nhas_spec [Strm] (h : Hash) (z : Int) (w : World) (X : List (Nat × Obj)) (H : SL w X) : Does Tryd.prog 17 #[.pointer none, .int .i64 z, hV h.1] w fun r w' => r = .bool false ∧ SL w' X :=
  has_core none h z false w X (fun w Y v hv H => nall_spec h v [z] (by simp) w _ hv H) H

theorem has_spec [Strm] (b : Nat) (L : List Sg) (hL : Signs L) (h : Hash) (z : Int) (A : List (Nat × Obj)) (w : World) (F : List (Nat × Obj)) (hA : BookH b L A) (H : SL w (A ++ F)) :
    Does Tryd.prog 17 #[.pointer (some ⟨b, 0, none⟩), .int .i64 z, hV h.1] w fun r w' => r = .bool (hasZ L z h) ∧ SL w' (A ++ F) :=
  has_core (some ⟨b, 0, none⟩) h z _ w _ (fun w Y v hv H => (all_spec b L hL h v [z] (by simp) A w (Y ++ F) hA (hv.sub fun p hp => (perm_in Y A F).subset hp) H.swapL).mono fun r w' ⟨hr, H⟩ => ⟨by rw [hr]; simp, H.swapL⟩) H

theorem hclone_spec [Strm] (v : Value) (xs : List Hash) (hx : xs.length ≤ 1000000) (w : World) (X : List (Nat × Obj)) (hs : RdS X 32 v xs.length (xs.flatMap gH)) (H : SL w X) :
    Does Tryd.prog 32 #[v] w fun r w' => ∃ B', Slc gH 32 25 r xs B' ∧ SL w' (B' ++ X) := by
  obtain ⟨a, c, rfl, hc⟩ := hs.len
  refine Does.intro (args := [_]) (e := [(0, _)]) Tryd.func32 rfl Tryd.ntmps32 rfl rfl ?_
  repeat (first | refine RunsE.seq ?_ | refine RunsE.skip ?_ | refine RunsE.block ?_ | refine RunsE.inBlock ?_ | refine RunsE.yes rfl ?_ | refine RunsE.no rfl ?_ | refine RunsE.exit rfl ?_)
  cases a with
  | none =>
    obtain rfl : xs = [] := by
      rcases Nat.eq_zero_or_pos xs.length with h | h
      · exact List.eq_nil_of_length_eq_zero h
      · obtain ⟨b, off, e, _⟩ := hs.at h; cases e
    repeat (first | refine RunsE.seq ?_ | refine RunsE.skip ?_ | refine RunsE.block ?_ | refine RunsE.inBlock ?_ | refine RunsE.yes rfl ?_ | refine RunsE.no rfl ?_ | refine RunsE.exit rfl ?_)
    refine RunsE.region ?_
    refine OpsE.ev (Ev.assign rfl) rfl ?_
    refine OpsE.nil ?_
    repeat (first | refine RunsE.seq ?_ | refine RunsE.skip ?_ | refine RunsE.block ?_ | refine RunsE.inBlock ?_ | refine RunsE.yes rfl ?_ | refine RunsE.no rfl ?_ | refine RunsE.exit rfl ?_)
    refine RunsE.region ?_
    refine OpsE.ev (Ev.move rfl) rfl ?_
    refine OpsE.ev (Ev.slNilEq (a := none) rfl rfl Tryd.underlying44) rfl ?_
    refine OpsE.nil ?_
    repeat (first | refine RunsE.seq ?_ | refine RunsE.skip ?_ | refine RunsE.block ?_ | refine RunsE.inBlock ?_ | refine RunsE.yes rfl ?_ | refine RunsE.no rfl ?_ | refine RunsE.exit rfl ?_)
    refine RunsE.region ?_
    refine OpsE.ev (Ev.assign rfl) rfl ?_
    refine OpsE.nil ?_
    repeat (first | refine RunsE.seq ?_ | refine RunsE.skip ?_ | refine RunsE.block ?_ | refine RunsE.inBlock ?_ | refine RunsE.yes rfl ?_ | refine RunsE.no rfl ?_ | refine RunsE.exit rfl ?_)
    exact RunsE.ret1 Tryd.func32 rfl rfl ⟨[], .nil, H⟩
  | some a =>
    repeat (first | refine RunsE.seq ?_ | refine RunsE.skip ?_ | refine RunsE.block ?_ | refine RunsE.inBlock ?_ | refine RunsE.yes rfl ?_ | refine RunsE.no rfl ?_ | refine RunsE.exit rfl ?_)
    refine RunsE.region ?_
    refine OpsE.ev (Ev.assign rfl) rfl ?_
    refine OpsE.nil ?_
    repeat (first | refine RunsE.seq ?_ | refine RunsE.skip ?_ | refine RunsE.block ?_ | refine RunsE.inBlock ?_ | refine RunsE.yes rfl ?_ | refine RunsE.no rfl ?_ | refine RunsE.exit rfl ?_)
    refine RunsE.region ?_
    refine OpsE.ev (Ev.move rfl) rfl ?_
    refine OpsE.ev (Ev.slNilEq (a := some a) rfl rfl Tryd.underlying44) rfl ?_
    refine OpsE.nil ?_
    repeat (first | refine RunsE.seq ?_ | refine RunsE.skip ?_ | refine RunsE.block ?_ | refine RunsE.inBlock ?_ | refine RunsE.yes rfl ?_ | refine RunsE.no rfl ?_ | refine RunsE.exit rfl ?_)
    refine RunsE.region ?_
    refine OpsE.ex (Ex.buildSl0 (sz := 32) (T := 25) H (by kernel_rfl)) rfl ?_; (try clear H); rintro _ w ⟨b5, rfl, H⟩
    refine OpsE.ev (Ev.move rfl) rfl ?_
    refine OpsE.ex (Ex.append (T := 25) (g := gH) (sz := 32) (by_ := 32) (zv := .agg (List.replicate 32 (.int .u8 0)).toArray) (xs := []) (ys := xs) (B := [(b5, .cells #[] 25 (0, 0))]) H rfl rfl (Slc.lit0 b5) ((hs.sub fun p hp => by simp [hp]).src H) gH_len gH_one (by kernel_rfl) (by kernel_rfl) (by kernel_rfl) (by kernel_rfl) rfl (by simp only [List.length_nil]; omega) (by simp only [List.length_nil]; omega)) rfl ?_; (try clear H); rintro v' w ⟨B', hs', H⟩
    refine OpsE.ev (Ev.assign rfl) rfl ?_
    refine OpsE.nil ?_
    repeat (first | refine RunsE.seq ?_ | refine RunsE.skip ?_ | refine RunsE.block ?_ | refine RunsE.inBlock ?_ | refine RunsE.yes rfl ?_ | refine RunsE.no rfl ?_ | refine RunsE.exit rfl ?_)
    exact RunsE.ret1 Tryd.func32 rfl rfl ⟨B', hs', H⟩

theorem nsums_spec [Strm] (z : Int) (w : World) (F : List (Nat × Obj)) (H : SL w F) : Does Tryd.prog 19 #[.pointer none, .int .i64 z] w fun r w' => r = .slice none 0 0 ∧ SL w' F := by
  refine Does.intro (args := [_, _]) (e := [(0, _), (1, _)]) Tryd.func19 rfl Tryd.ntmps19 rfl rfl ?_
  repeat (first | refine RunsE.seq ?_ | refine RunsE.skip ?_ | refine RunsE.block ?_ | refine RunsE.inBlock ?_ | refine RunsE.yes rfl ?_ | refine RunsE.no rfl ?_ | refine RunsE.exit rfl ?_)
  repeat (first | refine RunsE.seq ?_ | refine RunsE.skip ?_ | refine RunsE.block ?_ | refine RunsE.inBlock ?_ | refine RunsE.yes rfl ?_ | refine RunsE.no rfl ?_ | refine RunsE.exit rfl ?_)
  refine RunsE.region ?_
  refine OpsE.ev (Ev.assign rfl) rfl ?_
  refine OpsE.nil ?_
  repeat (first | refine RunsE.seq ?_ | refine RunsE.skip ?_ | refine RunsE.block ?_ | refine RunsE.inBlock ?_ | refine RunsE.yes rfl ?_ | refine RunsE.no rfl ?_ | refine RunsE.exit rfl ?_)
  refine RunsE.region ?_
  refine OpsE.ev (Ev.move rfl) rfl ?_
  refine OpsE.ev (Ev.ptrNilEq (el := 58) rfl rfl (by kernel_rfl)) rfl ?_
  refine OpsE.ev (Ev.move rfl) rfl ?_
  first | (refine OpsE.yes rfl rfl ?_; refine OpsE.ev (Ev.move rfl) rfl ?_) | refine OpsE.no rfl rfl rfl ?_ | refine OpsE.off rfl rfl rfl ?_
  first | (refine OpsE.yes rfl rfl ?_; refine OpsE.ev (Ev.lss rfl rfl) rfl ?_) | refine OpsE.no rfl rfl rfl ?_ | refine OpsE.off rfl rfl rfl ?_
  refine OpsE.ev ((by first | exact Ev.pickT rfl rfl | exact Ev.pickF rfl rfl)) rfl ?_
  refine OpsE.ev (Ev.move rfl) rfl ?_
  first | (refine OpsE.yes rfl rfl ?_; refine OpsE.ev (Ev.move rfl) rfl ?_) | refine OpsE.no rfl rfl rfl ?_ | refine OpsE.off rfl rfl rfl ?_
  first | (refine OpsE.yes rfl rfl ?_; refine OpsE.ev (Ev.geq rfl rfl) rfl ?_) | refine OpsE.no rfl rfl rfl ?_ | refine OpsE.off rfl rfl rfl ?_
  refine OpsE.ev ((by first | exact Ev.pickT rfl rfl | exact Ev.pickF rfl rfl)) rfl ?_
  refine OpsE.nil ?_
  repeat (first | refine RunsE.seq ?_ | refine RunsE.skip ?_ | refine RunsE.block ?_ | refine RunsE.inBlock ?_ | refine RunsE.yes rfl ?_ | refine RunsE.no rfl ?_ | refine RunsE.exit rfl ?_)
  refine RunsE.region ?_
  refine OpsE.ev (Ev.assign rfl) rfl ?_
  refine OpsE.nil ?_
  repeat (first | refine RunsE.seq ?_ | refine RunsE.skip ?_ | refine RunsE.block ?_ | refine RunsE.inBlock ?_ | refine RunsE.yes rfl ?_ | refine RunsE.no rfl ?_ | refine RunsE.exit rfl ?_)
  exact RunsE.ret1 Tryd.func19 rfl rfl ⟨rfl, H⟩

theorem sums_spec [Strm] (b : Nat) (L : List Sg) (hL : Signs L) (hlen : L.length ≤ 1000) (z : Int) (A : List (Nat × Obj)) (w : World) (F : List (Nat × Obj)) (hA : BookH b L A) (H : SL w (A ++ F)) :
    Does Tryd.prog 19 #[.pointer (some ⟨b, 0, none⟩), .int .i64 z] w fun r w' => ∃ B, Slc gH 32 25 r (sumsZ L z) B ∧ SL w' (B ++ (A ++ F)) := by
  have hsl := sumsZ_len L z
  refine Does.intro (args := [_, _]) (e := [(0, _), (1, _)]) Tryd.func19 rfl Tryd.ntmps19 rfl rfl ?_
  repeat (first | refine RunsE.seq ?_ | refine RunsE.skip ?_ | refine RunsE.block ?_ | refine RunsE.inBlock ?_ | refine RunsE.yes rfl ?_ | refine RunsE.no rfl ?_ | refine RunsE.exit rfl ?_)
  repeat (first | refine RunsE.seq ?_ | refine RunsE.skip ?_ | refine RunsE.block ?_ | refine RunsE.inBlock ?_ | refine RunsE.yes rfl ?_ | refine RunsE.no rfl ?_ | refine RunsE.exit rfl ?_)
  refine RunsE.region ?_
  refine OpsE.ev (Ev.assign rfl) rfl ?_
  refine OpsE.nil ?_
  by_cases h1 : z < 0
  · have e0 := hL.sumsOut (z := z) (decide_eq_false (by omega))
    rw [e0]
    repeat (first | refine RunsE.seq ?_ | refine RunsE.skip ?_ | refine RunsE.block ?_ | refine RunsE.inBlock ?_ | refine RunsE.yes rfl ?_ | refine RunsE.no rfl ?_ | refine RunsE.exit rfl ?_)
    refine RunsE.region ?_
    refine OpsE.ev (Ev.move rfl) rfl ?_
    refine OpsE.ev (Ev.ptrNilEq (el := 58) rfl rfl (by kernel_rfl)) rfl ?_
    refine OpsE.ev (Ev.move rfl) rfl ?_
    first | (refine OpsE.yes rfl rfl ?_; refine OpsE.ev (Ev.move rfl) rfl ?_) | refine OpsE.no rfl rfl rfl ?_ | refine OpsE.off rfl rfl rfl ?_
    first | (refine OpsE.yes rfl rfl ?_; refine OpsE.ev (Ev.lss (r := true) rfl rfl (decide_eq_true h1)) rfl ?_) | refine OpsE.no rfl rfl rfl ?_ | refine OpsE.off rfl rfl rfl ?_
    refine OpsE.ev ((by first | exact Ev.pickT rfl rfl | exact Ev.pickF rfl rfl)) rfl ?_
    refine OpsE.ev (Ev.move rfl) rfl ?_
    first | (refine OpsE.yes rfl rfl ?_; refine OpsE.ev (Ev.move rfl) rfl ?_) | refine OpsE.no rfl rfl rfl ?_ | refine OpsE.off rfl rfl rfl ?_
    first | (refine OpsE.yes rfl rfl ?_; refine OpsE.ev (Ev.geq rfl rfl) rfl ?_) | refine OpsE.no rfl rfl rfl ?_ | refine OpsE.off rfl rfl rfl ?_
    refine OpsE.ev ((by first | exact Ev.pickT rfl rfl | exact Ev.pickF rfl rfl)) rfl ?_
    refine OpsE.nil ?_
    repeat (first | refine RunsE.seq ?_ | refine RunsE.skip ?_ | refine RunsE.block ?_ | refine RunsE.inBlock ?_ | refine RunsE.yes rfl ?_ | refine RunsE.no rfl ?_ | refine RunsE.exit rfl ?_)
    refine RunsE.region ?_
    refine OpsE.ev (Ev.assign rfl) rfl ?_
    refine OpsE.nil ?_
    repeat (first | refine RunsE.seq ?_ | refine RunsE.skip ?_ | refine RunsE.block ?_ | refine RunsE.inBlock ?_ | refine RunsE.yes rfl ?_ | refine RunsE.no rfl ?_ | refine RunsE.exit rfl ?_)
    exact RunsE.ret1 Tryd.func19 rfl rfl ⟨[], .nil, H⟩
  by_cases h2 : 16 ≤ z
  · have e0 := hL.sumsOut (z := z) (decide_eq_false (by omega))
    rw [e0]
    repeat (first | refine RunsE.seq ?_ | refine RunsE.skip ?_ | refine RunsE.block ?_ | refine RunsE.inBlock ?_ | refine RunsE.yes rfl ?_ | refine RunsE.no rfl ?_ | refine RunsE.exit rfl ?_)
    refine RunsE.region ?_
    refine OpsE.ev (Ev.move rfl) rfl ?_
    refine OpsE.ev (Ev.ptrNilEq (el := 58) rfl rfl (by kernel_rfl)) rfl ?_
    refine OpsE.ev (Ev.move rfl) rfl ?_
    first | (refine OpsE.yes rfl rfl ?_; refine OpsE.ev (Ev.move rfl) rfl ?_) | refine OpsE.no rfl rfl rfl ?_ | refine OpsE.off rfl rfl rfl ?_
    first | (refine OpsE.yes rfl rfl ?_; refine OpsE.ev (Ev.lss (r := false) rfl rfl (decide_eq_false h1)) rfl ?_) | refine OpsE.no rfl rfl rfl ?_ | refine OpsE.off rfl rfl rfl ?_
    refine OpsE.ev ((by first | exact Ev.pickT rfl rfl | exact Ev.pickF rfl rfl)) rfl ?_
    refine OpsE.ev (Ev.move rfl) rfl ?_
    first | (refine OpsE.yes rfl rfl ?_; refine OpsE.ev (Ev.move rfl) rfl ?_) | refine OpsE.no rfl rfl rfl ?_ | refine OpsE.off rfl rfl rfl ?_
    first | (refine OpsE.yes rfl rfl ?_; refine OpsE.ev (Ev.geq (r := true) rfl rfl (decide_eq_true (by omega))) rfl ?_) | refine OpsE.no rfl rfl rfl ?_ | refine OpsE.off rfl rfl rfl ?_
    refine OpsE.ev ((by first | exact Ev.pickT rfl rfl | exact Ev.pickF rfl rfl)) rfl ?_
    refine OpsE.nil ?_
    repeat (first | refine RunsE.seq ?_ | refine RunsE.skip ?_ | refine RunsE.block ?_ | refine RunsE.inBlock ?_ | refine RunsE.yes rfl ?_ | refine RunsE.no rfl ?_ | refine RunsE.exit rfl ?_)
    refine RunsE.region ?_
    refine OpsE.ev (Ev.assign rfl) rfl ?_
    refine OpsE.nil ?_
    repeat (first | refine RunsE.seq ?_ | refine RunsE.skip ?_ | refine RunsE.block ?_ | refine RunsE.inBlock ?_ | refine RunsE.yes rfl ?_ | refine RunsE.no rfl ?_ | refine RunsE.exit rfl ?_)
    exact RunsE.ret1 Tryd.func19 rfl rfl ⟨[], .nil, H⟩
  obtain ⟨k, rfl⟩ : ∃ k : Nat, z = (k : Int) := ⟨z.toNat, by omega⟩
  repeat (first | refine RunsE.seq ?_ | refine RunsE.skip ?_ | refine RunsE.block ?_ | refine RunsE.inBlock ?_ | refine RunsE.yes rfl ?_ | refine RunsE.no rfl ?_ | refine RunsE.exit rfl ?_)
  refine RunsE.region ?_
  refine OpsE.ev (Ev.move rfl) rfl ?_
  refine OpsE.ev (Ev.ptrNilEq (el := 58) rfl rfl (by kernel_rfl)) rfl ?_
  refine OpsE.ev (Ev.move rfl) rfl ?_
  first | (refine OpsE.yes rfl rfl ?_; refine OpsE.ev (Ev.move rfl) rfl ?_) | refine OpsE.no rfl rfl rfl ?_ | refine OpsE.off rfl rfl rfl ?_
  first | (refine OpsE.yes rfl rfl ?_; refine OpsE.ev (Ev.lss (r := false) rfl rfl (decide_eq_false h1)) rfl ?_) | refine OpsE.no rfl rfl rfl ?_ | refine OpsE.off rfl rfl rfl ?_
  refine OpsE.ev ((by first | exact Ev.pickT rfl rfl | exact Ev.pickF rfl rfl)) rfl ?_
  refine OpsE.ev (Ev.move rfl) rfl ?_
  first | (refine OpsE.yes rfl rfl ?_; refine OpsE.ev (Ev.move rfl) rfl ?_) | refine OpsE.no rfl rfl rfl ?_ | refine OpsE.off rfl rfl rfl ?_
  first | (refine OpsE.yes rfl rfl ?_; refine OpsE.ev (Ev.geq (r := false) rfl rfl (decide_eq_false (by omega))) rfl ?_) | refine OpsE.no rfl rfl rfl ?_ | refine OpsE.off rfl rfl rfl ?_
  refine OpsE.ev ((by first | exact Ev.pickT rfl rfl | exact Ev.pickF rfl rfl)) rfl ?_
  refine OpsE.nil ?_
  cases hA with
  | mk m clock es us hs C D hes hus hd hw hall hb =>
    have hul : us.length = 16 := by rw [hus.length, List.length_map, List.length_range]
    obtain ⟨u, hu⟩ : ∃ u, us[k]? = some u := ⟨us[k]'(by omega), by simp [show k < us.length by omega]⟩
    obtain ⟨x, B1, Bi, B2, hx, rfl, hr, _⟩ := hus.at hu
    have hxe : x = sumsZ L (k : Int) := by
      rw [List.getElem?_map, List.getElem?_range (by omega)] at hx
      exact (Option.some.inj hx).symm
    subst hxe
    have hrd : ∀ G, (∀ p ∈ Bi, p ∈ G) → RdS G 32 u (sumsZ L (k : Int)).length ((sumsZ L (k : Int)).flatMap gH) := fun G hG => by
      have h1 : RdS (Bi ++ []) 32 u (sumsZ L (k : Int)).length ((sumsZ L (k : Int)).flatMap gH) := Slc.rdS hr gH_len
      exact h1.sub fun q hq => hG q (by simpa using hq)
    repeat (first | refine RunsE.seq ?_ | refine RunsE.skip ?_ | refine RunsE.block ?_ | refine RunsE.inBlock ?_ | refine RunsE.yes rfl ?_ | refine RunsE.no rfl ?_ | refine RunsE.exit rfl ?_)
    refine RunsE.region ?_
    refine OpsE.ev (Ev.move rfl) rfl ?_
    refine OpsE.ev (Ev.move rfl) rfl ?_
    refine OpsE.ev (Ev.nilCheck rfl) rfl ?_
    refine OpsE.ev (Ev.fieldAddr (o := 1) rfl (by kernel_rfl)) rfl ?_
    refine OpsE.ev (Ev.iaArr (n := 16) (sz := 1) (m := k) (o := 1 + k) rfl rfl rfl (by kernel_rfl) (by omega) (by omega)) rfl ?_
    refine OpsE.ev (Ev.load (v := u) H rfl (by kernel_rfl) (Rd.mk m0 (by rw [Nat.add_comm]; simpa using hu))) rfl ?_
    refine OpsE.ex (Ex.call rfl Tryd.call32 (hclone_spec u _ (by omega) w _ (hrd _ fun p hp => by simp [hp]) H)) rfl ?_; (try clear H); rintro _ w ⟨B, hs', H⟩
    refine OpsE.ev (Ev.assign rfl) rfl ?_
    refine OpsE.nil ?_
    repeat (first | refine RunsE.seq ?_ | refine RunsE.skip ?_ | refine RunsE.block ?_ | refine RunsE.inBlock ?_ | refine RunsE.yes rfl ?_ | refine RunsE.no rfl ?_ | refine RunsE.exit rfl ?_)
    exact RunsE.ret1 Tryd.func19 rfl rfl ⟨B, hs', H⟩

theorem nlen_spec [Strm] (w : World) (F : List (Nat × Obj)) (H : SL w F) : Does Tryd.prog 15 #[.pointer none] w fun r w' => r = .int .i64 0 ∧ SL w' F := by
  refine Does.intro (args := [_]) (e := [(0, _)]) Tryd.func15 rfl Tryd.ntmps15 rfl rfl ?_
  repeat (first | refine RunsE.seq ?_ | refine RunsE.skip ?_ | refine RunsE.block ?_ | refine RunsE.inBlock ?_ | refine RunsE.yes rfl ?_ | refine RunsE.no rfl ?_ | refine RunsE.exit rfl ?_)
  repeat (first | refine RunsE.seq ?_ | refine RunsE.skip ?_ | refine RunsE.block ?_ | refine RunsE.inBlock ?_ | refine RunsE.yes rfl ?_ | refine RunsE.no rfl ?_ | refine RunsE.exit rfl ?_)
  refine RunsE.region ?_
  refine OpsE.ev (Ev.assign rfl) rfl ?_
  refine OpsE.nil ?_
  repeat (first | refine RunsE.seq ?_ | refine RunsE.skip ?_ | refine RunsE.block ?_ | refine RunsE.inBlock ?_ | refine RunsE.yes rfl ?_ | refine RunsE.no rfl ?_ | refine RunsE.exit rfl ?_)
  refine RunsE.region ?_
  refine OpsE.ev (Ev.assign rfl) rfl ?_
  refine OpsE.nil ?_
  repeat (first | refine RunsE.seq ?_ | refine RunsE.skip ?_ | refine RunsE.block ?_ | refine RunsE.inBlock ?_ | refine RunsE.yes rfl ?_ | refine RunsE.no rfl ?_ | refine RunsE.exit rfl ?_)
  refine RunsE.region ?_
  refine OpsE.ev (Ev.move rfl) rfl ?_
  refine OpsE.ev (Ev.ptrNilEq (el := 58) rfl rfl (by kernel_rfl)) rfl ?_
  refine OpsE.nil ?_
  repeat (first | refine RunsE.seq ?_ | refine RunsE.skip ?_ | refine RunsE.block ?_ | refine RunsE.inBlock ?_ | refine RunsE.yes rfl ?_ | refine RunsE.no rfl ?_ | refine RunsE.exit rfl ?_)
  refine RunsE.region ?_
  refine OpsE.ev (Ev.move rfl) rfl ?_
  refine OpsE.ev (Ev.assign rfl) rfl ?_
  refine OpsE.nil ?_
  repeat (first | refine RunsE.seq ?_ | refine RunsE.skip ?_ | refine RunsE.block ?_ | refine RunsE.inBlock ?_ | refine RunsE.yes rfl ?_ | refine RunsE.no rfl ?_ | refine RunsE.exit rfl ?_)
  exact RunsE.ret1 Tryd.func15 rfl rfl ⟨rfl, H⟩

theorem lensTo_le (L : List Sg) (n : Nat) : lensTo L n ≤ L.length := by
  rw [lensTo_eq]
  exact List.length_filter_le _ _

theorem len_spec [Strm] (b : Nat) (L : List Sg) (hL : Signs L) (hlen : L.length ≤ 1000) (A : List (Nat × Obj)) (w : World) (F : List (Nat × Obj)) (hA : BookH b L A) (H : SL w (A ++ F)) :
    Does Tryd.prog 15 #[.pointer (some ⟨b, 0, none⟩)] w fun r w' => r = .int .i64 (L.length : Int) ∧ SL w' (A ++ F) := by
  rw [← hL.len]
  refine Does.intro (args := [_]) (e := [(0, _)]) Tryd.func15 rfl Tryd.ntmps15 rfl rfl ?_
  repeat (first | refine RunsE.seq ?_ | refine RunsE.skip ?_ | refine RunsE.block ?_ | refine RunsE.inBlock ?_ | refine RunsE.yes rfl ?_ | refine RunsE.no rfl ?_ | refine RunsE.exit rfl ?_)
  repeat (first | refine RunsE.seq ?_ | refine RunsE.skip ?_ | refine RunsE.block ?_ | refine RunsE.inBlock ?_ | refine RunsE.yes rfl ?_ | refine RunsE.no rfl ?_ | refine RunsE.exit rfl ?_)
  refine RunsE.region ?_
  refine OpsE.ev (Ev.assign rfl) rfl ?_
  refine OpsE.nil ?_
  repeat (first | refine RunsE.seq ?_ | refine RunsE.skip ?_ | refine RunsE.block ?_ | refine RunsE.inBlock ?_ | refine RunsE.yes rfl ?_ | refine RunsE.no rfl ?_ | refine RunsE.exit rfl ?_)
  refine RunsE.region ?_
  refine OpsE.ev (Ev.assign rfl) rfl ?_
  refine OpsE.nil ?_
  repeat (first | refine RunsE.seq ?_ | refine RunsE.skip ?_ | refine RunsE.block ?_ | refine RunsE.inBlock ?_ | refine RunsE.yes rfl ?_ | refine RunsE.no rfl ?_ | refine RunsE.exit rfl ?_)
  refine RunsE.region ?_
  refine OpsE.ev (Ev.move rfl) rfl ?_
  refine OpsE.ev (Ev.ptrNilEq (el := 58) rfl rfl (by kernel_rfl)) rfl ?_
  refine OpsE.nil ?_
  have hA' := hA
  cases hA' with
  | mk m clock es us hs C D hes hus hd hw hall hb =>
    have hul : us.length = 16 := by rw [hus.length, List.length_map, List.length_range]
    have hul2 : ∀ k, k < 16 → ∃ a c, us[k]? = some (.slice a (sumsZ L (k : Int)).length c) := fun k hk => by
      obtain ⟨x, B1, Bi, B2, hx, _, hr, _⟩ := hus.at (i := k) (a := us[k]'(by omega)) (by simp [show k < us.length by omega])
      rw [List.getElem?_map, List.getElem?_range hk] at hx
      obtain rfl := Option.some.inj hx
      obtain ⟨a, c, e⟩ := Slc.len hr
      exact ⟨a, c, by rw [← e]; simp [show k < us.length by omega]⟩
    repeat (first | refine RunsE.seq ?_ | refine RunsE.skip ?_ | refine RunsE.block ?_ | refine RunsE.inBlock ?_ | refine RunsE.yes rfl ?_ | refine RunsE.no rfl ?_ | refine RunsE.exit rfl ?_)
    refine RunsE.region ?_
    refine OpsE.ev (Ev.move rfl) rfl ?_
    refine OpsE.ev (Ev.nilCheck rfl) rfl ?_
    refine OpsE.ev (Ev.fieldAddr (o := 1) rfl (by kernel_rfl)) rfl ?_
    refine OpsE.ev (Ev.loadPart (n := 16) (vs := us) (cs := .map (some m) :: us) H rfl (by kernel_rfl) hul m0 (fun i v hi => by rw [Nat.add_comm]; simpa using hi)) rfl ?_
    refine OpsE.ev (Ev.move rfl) rfl ?_
    refine OpsE.nil ?_
    repeat refine RunsE.seq ?_
    refine RunsE.join (fun _ : Unit => [(3, .int .i64 (lensTo L 16 : Int))]) (fun _ w => SL w ((b, bookO m us) :: (m, mapO es clock) :: (C ++ D) ++ F)) (fun next => ?_) ?_
    · refine RunsE.block ?_
      refine RunsE.loop (fun i : Nat => [(3, .int .i64 (lensTo L i : Int)), (12, .agg us.toArray), (13, .int .i64 (i : Int))])
        (fun i w => i ≤ 16 ∧ SL w ((b, bookO m us) :: (m, mapO es clock) :: (C ++ D) ++ F)) (fun i => 16 - i) 0 ⟨rfl, rfl, rfl, trivial⟩ ⟨by omega, H⟩ ?_
      clear H
      rintro i w ⟨hi, H⟩ nextL
      by_cases h1 : i = 16
      · subst h1
        repeat (first | refine RunsE.seq ?_ | refine RunsE.skip ?_ | refine RunsE.block ?_ | refine RunsE.inBlock ?_ | refine RunsE.yes rfl ?_ | refine RunsE.no rfl ?_ | refine RunsE.exit rfl ?_)
        refine RunsE.region ?_
        refine OpsE.ev (Ev.lss (r := false) rfl rfl rfl) rfl ?_
        refine OpsE.nil ?_
        repeat refine RunsE.seq ?_
        refine RunsE.no rfl ?_
        refine RunsE.exit rfl ?_
        exact next () _ _ H ⟨rfl, trivial⟩
      clear next
      obtain ⟨a, c, hu⟩ := hul2 i (by omega)
      have hle := lensTo_le L (i + 1)
      have hle2 := lensTo_le L i
      rw [lensTo] at hle
      repeat (first | refine RunsE.seq ?_ | refine RunsE.skip ?_ | refine RunsE.block ?_ | refine RunsE.inBlock ?_ | refine RunsE.yes rfl ?_ | refine RunsE.no rfl ?_ | refine RunsE.exit rfl ?_)
      refine RunsE.region ?_
      refine OpsE.ev (Ev.lss (r := true) rfl rfl (decide_eq_true (by omega))) rfl ?_
      refine OpsE.nil ?_
      repeat (first | refine RunsE.seq ?_ | refine RunsE.skip ?_ | refine RunsE.block ?_ | refine RunsE.inBlock ?_ | refine RunsE.yes rfl ?_ | refine RunsE.no rfl ?_ | refine RunsE.exit rfl ?_)
      repeat (first | refine RunsE.seq ?_ | refine RunsE.skip ?_ | refine RunsE.block ?_ | refine RunsE.inBlock ?_ | refine RunsE.yes rfl ?_ | refine RunsE.no rfl ?_ | refine RunsE.exit rfl ?_)
      refine RunsE.region ?_
      refine OpsE.ev (Ev.ixArr (m := i) rfl rfl rfl Tryd.underlying56 (by kernel_rfl) (by kernel_rfl) (by omega) (by simpa using hu)) rfl ?_
      refine OpsE.ev (Ev.assign rfl) rfl ?_
      refine OpsE.nil ?_
      repeat (first | refine RunsE.seq ?_ | refine RunsE.skip ?_ | refine RunsE.block ?_ | refine RunsE.inBlock ?_ | refine RunsE.yes rfl ?_ | refine RunsE.no rfl ?_ | refine RunsE.exit rfl ?_)
      refine RunsE.region ?_
      refine OpsE.ev (Ev.move rfl) rfl ?_
      refine OpsE.ev (Ev.move rfl) rfl ?_
      refine OpsE.ev (Ev.lenSl (d := 25) rfl rfl (by kernel_rfl)) rfl ?_
      refine OpsE.ev (Ev.add (c := (lensTo L (i + 1) : Int)) rfl rfl (by rw [lensTo]; rw [qi64 (by omega) (by omega)]; omega)) rfl ?_
      refine OpsE.ev (Ev.assign rfl) rfl ?_
      refine OpsE.nil ?_
      repeat (first | refine RunsE.seq ?_ | refine RunsE.skip ?_ | refine RunsE.block ?_ | refine RunsE.inBlock ?_ | refine RunsE.yes rfl ?_ | refine RunsE.no rfl ?_ | refine RunsE.exit rfl ?_)
      refine RunsE.region ?_
      refine OpsE.ev (Ev.add rfl rfl) rfl ?_
      refine OpsE.ev (Ev.move rfl) rfl ?_
      refine OpsE.nil ?_
      exact nextL (i + 1) _ _ (by omega) ⟨by omega, H⟩ ⟨rfl, rfl, rfl, trivial⟩
    clear H
    rintro _ w H
    repeat (first | refine RunsE.seq ?_ | refine RunsE.skip ?_ | refine RunsE.block ?_ | refine RunsE.inBlock ?_ | refine RunsE.yes rfl ?_ | refine RunsE.no rfl ?_ | refine RunsE.exit rfl ?_)
    refine RunsE.region ?_
    refine OpsE.ev (Ev.move rfl) rfl ?_
    refine OpsE.ev (Ev.assign rfl) rfl ?_
    refine OpsE.nil ?_
    repeat (first | refine RunsE.seq ?_ | refine RunsE.skip ?_ | refine RunsE.block ?_ | refine RunsE.inBlock ?_ | refine RunsE.yes rfl ?_ | refine RunsE.no rfl ?_ | refine RunsE.exit rfl ?_)
    exact RunsE.ret1 Tryd.func15 rfl rfl ⟨rfl, H⟩

end Go.Proofs.YtniihnncgblocaaDoor
