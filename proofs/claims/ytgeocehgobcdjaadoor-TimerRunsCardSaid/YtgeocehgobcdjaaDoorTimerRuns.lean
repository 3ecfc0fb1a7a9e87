/-
  The statement 'TimerRuns': its function, walked.
-/
import Derived.Test.YtgeocehgobcdjaaDoorTimerAdds
namespace Go.Proofs.YtgeocehgobcdjaaDoor.V

structure ActT where
  kind : Int
  n : Int
  name : List UInt8
deriving Inhabited

def ActT.vs (x : ActT) : List Value := [.int .i64 x.kind, .int .i64 x.n, .string ⟨x.name.toArray⟩]

/-- What lies at an act's place. -/
def ActTAt (L : List (Nat × Obj)) (b off : Nat) (x : ActT) : Prop := ∀ (j : Nat) v, x.vs[j]? = some v → Rd L ⟨b, off + j, none⟩ v

theorem SL.fin5 [Strm] {w : World} {A B D F : List (Nat × Obj)} {y c : Nat × Obj} (h : SL w (B ++ (A ++ (y :: c :: (D ++ F))))) : SL w (A ++ (c :: ((B ++ D) ++ F))) := by
  have h1 : SL w (B ++ (A ++ (c :: (D ++ F)))) := h.sublist (((List.sublist_cons_self y _).append_left A).append_left B)
  refine h1.perm ?_
  rw [List.append_assoc]
  exact (List.perm_middle.symm.append_left A).trans (perm_in A B _)

/-- What Cancel tells. -/
def cErr (L : List TEv) (id : Int) : Nat := if L.any (fun e => decide ((e.id : Int) = id)) = true then 0 else 8
theorem cErr_hit {L : List TEv} {id : Int} {e : TEv} (h : e ∈ L) (he : (e.id : Int) = id) : cErr L id = 0 := by
  unfold cErr
  rw [if_pos (List.any_eq_true.2 ⟨e, h, decide_eq_true he⟩)]
theorem cErr_miss {L : List TEv} {id : Int} (h : ∀ e ∈ L, (e.id : Int) ≠ id) : cErr L id = 8 := by
  unfold cErr
  rw [if_neg]
  intro hc
  obtain ⟨e, he, hd⟩ := List.any_eq_true.1 hc
  exact h e he (of_decide_eq_true hd)

/-- What Next tells. -/
def nDue (L : List TEv) : Nat := if L.length = 0 then 0 else (at' L 0).due
theorem first_due {xs L : List TEv} (hp : xs.Perm L) (h0 : 0 < xs.length) (hx : ∀ a ∈ xs, (at' xs 0).le a) (hs : L.Pairwise TEv.le) : (at' xs 0).due = nDue L := by
  have hl := hp.length_eq
  unfold nDue
  rw [if_neg (by omega)]
  have m1 : at' xs 0 ∈ L := hp.subset (List.mem_of_getElem? (at_some h0))
  have m2 : at' L 0 ∈ xs := hp.symm.subset (List.mem_of_getElem? (at_some (by omega)))
  have l1 := TEv.le_due (hx _ m2)
  have l2 : (at' L 0).due ≤ (at' xs 0).due := by
    obtain ⟨k, hk⟩ := List.getElem?_of_mem m1
    have hkl : k < L.length := by
      rcases Nat.lt_or_ge k L.length with h | h
      · exact h
      · rw [List.getElem?_eq_none h] at hk; cases hk
    rw [at_some hkl] at hk
    rw [← Option.some.inj hk]
    exact TEv.le_due (sorted_at hs (Nat.zero_le _) hkl)
  omega

end Go.Proofs.YtgeocehgobcdjaaDoor.V
namespace Go.Proofs.YtgeocehgobcdjaaDoor
open Go.Proofs.YtgeocehgobcdjaaDoor.V

theorem nnext_spec [Strm] (w : World) (F : List (Nat × Obj)) (H : SL w F) : Does Tryd.prog 16 #[.pointer none] w fun r w' => r = .tuple #[.int .i64 0, .bool false] ∧ SL w' F := by
  refine Does.intro (args := [_]) (e := [(0, _)]) Tryd.func16 rfl Tryd.ntmps16 rfl rfl ?_
  repeat (first | refine RunsE.seq ?_ | refine RunsE.skip ?_ | refine RunsE.block ?_ | refine RunsE.inBlock ?_ | refine RunsE.yes rfl ?_ | refine RunsE.no rfl ?_ | refine RunsE.exit rfl ?_)
  repeat (first | refine RunsE.seq ?_ | refine RunsE.skip ?_ | refine RunsE.block ?_ | refine RunsE.inBlock ?_ | refine RunsE.yes rfl ?_ | refine RunsE.no rfl ?_ | refine RunsE.exit rfl ?_)
  refine RunsE.region ?_
  refine OpsE.ev (Ev.assign rfl) rfl ?_
  refine OpsE.ev (Ev.assign rfl) rfl ?_
  refine OpsE.nil ?_
  repeat (first | refine RunsE.seq ?_ | refine RunsE.skip ?_ | refine RunsE.block ?_ | refine RunsE.inBlock ?_ | refine RunsE.yes rfl ?_ | refine RunsE.no rfl ?_ | refine RunsE.exit rfl ?_)
  refine RunsE.region ?_
  refine OpsE.ev (Ev.move rfl) rfl ?_
  refine OpsE.ex (Ex.call rfl Tryd.call15 (ntlen_spec w _ H)) rfl ?_; (try clear H); rintro _ w ⟨rfl, H⟩
  refine OpsE.ev (Ev.eql (r := true) rfl rfl rfl) rfl ?_
  refine OpsE.nil ?_
  repeat (first | refine RunsE.seq ?_ | refine RunsE.skip ?_ | refine RunsE.block ?_ | refine RunsE.inBlock ?_ | refine RunsE.yes rfl ?_ | refine RunsE.no rfl ?_ | refine RunsE.exit rfl ?_)
  refine RunsE.region ?_
  refine OpsE.ev (Ev.assign rfl) rfl ?_
  refine OpsE.ev (Ev.assign rfl) rfl ?_
  refine OpsE.nil ?_
  repeat (first | refine RunsE.seq ?_ | refine RunsE.skip ?_ | refine RunsE.block ?_ | refine RunsE.inBlock ?_ | refine RunsE.yes rfl ?_ | refine RunsE.no rfl ?_ | refine RunsE.exit rfl ?_)
  exact RunsE.ret2 Tryd.func16 rfl rfl rfl ⟨rfl, H⟩

theorem next_all [Strm] (b : Nat) (xs L : List TEv) (last : Nat) (hQ : QRel xs L last) (A : List (Nat × Obj)) (w : World) (F : List (Nat × Obj)) (hA : QH b xs last A) (H : SL w (A ++ F)) :
    Does Tryd.prog 16 #[.pointer (some ⟨b, 0, none⟩)] w fun r w' => r = .tuple #[.int .i64 (nDue L : Int), .bool (decide (0 < L.length))] ∧ SL w' (A ++ F) := by
  have hl := hQ.perm.length_eq
  by_cases h0 : xs.length = 0
  · obtain rfl := List.eq_nil_of_length_eq_zero h0
    obtain rfl : L = [] := List.eq_nil_of_length_eq_zero (by omega)
    exact next0_spec b last A w F hA H
  · have hA' := hA
    obtain ⟨v, B, hs, hh⟩ := hA'
    have hd := first_due hQ.perm (by omega) (heap_first hh) hQ.sorted
    rw [decide_eq_true (by omega : 0 < L.length), ← hd]
    exact next_spec b xs last (by omega) _ w F hA H

theorem cancel_all [Strm] (b : Nat) (xs L : List TEv) (last : Nat) (id : Int) (hQ : QRel xs L last) (hx : xs.length ≤ 1000000) (A : List (Nat × Obj)) (w : World) (F : List (Nat × Obj)) (hA : QH b xs last A) (H : SL w (A ++ F)) :
    Does Tryd.prog 13 #[.pointer (some ⟨b, 0, none⟩), .int .i64 id] w fun r w' => ∃ ys A', r = EN (cErr L id) ∧ QRel ys (L.filter fun a => decide ((a.id : Int) ≠ id)) last ∧ QH b ys last A' ∧ SL w' (A' ++ F) := by
  refine (cancel_spec b xs last id hx A w F hA H).mono ?_
  rintro r w' ⟨ys, A', ⟨rfl, rfl, hno⟩ | ⟨rfl, e, hid, hp⟩, hA, H⟩
  · have hno' : ∀ e ∈ L, (e.id : Int) ≠ id := fun e he => hno e (hQ.perm.symm.subset he)
    refine ⟨ys, A', by rw [cErr_miss hno']; rfl, ?_, hA, H⟩
    rw [List.filter_eq_self.2 fun a ha => decide_eq_true (hno' a ha)]
    exact hQ
  · refine ⟨ys, A', by rw [cErr_hit (hQ.perm.subset (hp.subset (.head _))) hid]; rfl, hQ.cancel hid hp, hA, H⟩

theorem rcancel_all [Strm] (L : List TEv) (last : Nat) (x : TX) (id : Int) (hL : L.length ≤ 1000000) (w : World) (X G : List (Nat × Obj)) (hG : ∀ p ∈ G, p ∈ X) (hR : RefT G L x) (H : SL w X) :
    Does Tryd.prog 17 #[TVal L last x, .int .i64 id] w fun r w' => ∃ B x', r = .tuple #[TVal (L.filter fun a => decide ((a.id : Int) ≠ id)) last x', .int .i64 (cErr L id : Int)] ∧ RefT (B ++ G) (L.filter fun a => decide ((a.id : Int) ≠ id)) x' ∧ SL w' (B ++ X) := by
  refine (rcancel_spec L last x id hL w X G hG hR H).mono ?_
  rintro r w' ⟨L2, B, x', ⟨rfl, rfl, hno⟩ | ⟨rfl, rfl, e, he, hid⟩, hR, H⟩
  · have e1 : L2.filter (fun a => decide ((a.id : Int) ≠ id)) = L2 := List.filter_eq_self.2 fun a ha => decide_eq_true (hno a ha)
    rw [e1, cErr_miss hno]
    exact ⟨B, x', rfl, hR, H⟩
  · rw [cErr_hit he hid]
    exact ⟨B, x', rfl, hR, H⟩

set_option maxHeartbeats 4000000 in
theorem runslaw_spec [Strm] (l : List ActT) (vl : Value) (w : World) (F : List (Nat × Obj)) (hvl : ElsA 3 (ActTAt F) vl l) (hE : ErrIn F) (H : SL w F) :
    Does Tryd.prog 5 #[vl] w fun r w' => r = .bool true ∧ SL w' F := by
  obtain ⟨al, cl, rfl, hcl⟩ := hvl.len
  refine Does.intro (args := [_]) (e := [(0, _)]) Tryd.func5 rfl Tryd.ntmps5 rfl rfl ?_
  repeat (first | refine RunsE.seq ?_ | refine RunsE.skip ?_ | refine RunsE.block ?_ | refine RunsE.inBlock ?_ | refine RunsE.yes rfl ?_ | refine RunsE.no rfl ?_ | refine RunsE.exit rfl ?_)
  repeat (first | refine RunsE.seq ?_ | refine RunsE.skip ?_ | refine RunsE.block ?_ | refine RunsE.inBlock ?_ | refine RunsE.yes rfl ?_ | refine RunsE.no rfl ?_ | refine RunsE.exit rfl ?_)
  refine RunsE.region ?_
  refine OpsE.ev (Ev.assign rfl) rfl ?_
  refine OpsE.nil ?_
  repeat (first | refine RunsE.seq ?_ | refine RunsE.skip ?_ | refine RunsE.block ?_ | refine RunsE.inBlock ?_ | refine RunsE.yes rfl ?_ | refine RunsE.no rfl ?_ | refine RunsE.exit rfl ?_)
  refine RunsE.region ?_
  refine OpsE.ev (Ev.assign rfl) rfl ?_
  refine OpsE.nil ?_
  repeat (first | refine RunsE.seq ?_ | refine RunsE.skip ?_ | refine RunsE.block ?_ | refine RunsE.inBlock ?_ | refine RunsE.yes rfl ?_ | refine RunsE.no rfl ?_ | refine RunsE.exit rfl ?_)
  refine RunsE.region ?_
  refine OpsE.ev (Ev.move rfl) rfl ?_
  refine OpsE.ex (Ex.call rfl Tryd.call7 (nadd_spec 1 _ w _ H)) rfl ?_; (try clear H); rintro _ w ⟨rfl, H⟩
  refine OpsE.ev (Ev.move rfl) rfl ?_
  refine OpsE.ev (Ev.extract rfl rfl) rfl ?_
  refine OpsE.ev (Ev.extract rfl rfl) rfl ?_
  refine OpsE.ev (Ev.assign rfl) rfl ?_
  refine OpsE.ev (Ev.assign rfl) rfl ?_
  refine OpsE.nil ?_
  repeat (first | refine RunsE.seq ?_ | refine RunsE.skip ?_ | refine RunsE.block ?_ | refine RunsE.inBlock ?_ | refine RunsE.yes rfl ?_ | refine RunsE.no rfl ?_ | refine RunsE.exit rfl ?_)
  refine RunsE.region ?_
  refine OpsE.ev (Ev.move rfl) rfl ?_
  refine OpsE.ex (Ex.call rfl Tryd.call16 (nnext_spec w _ H)) rfl ?_; (try clear H); rintro _ w ⟨rfl, H⟩
  refine OpsE.ev (Ev.move rfl) rfl ?_
  refine OpsE.ev (Ev.extract rfl rfl) rfl ?_
  refine OpsE.ev (Ev.extract rfl rfl) rfl ?_
  refine OpsE.ev (Ev.assign rfl) rfl ?_
  refine OpsE.ev (Ev.assign rfl) rfl ?_
  refine OpsE.nil ?_
  repeat (first | refine RunsE.seq ?_ | refine RunsE.skip ?_ | refine RunsE.block ?_ | refine RunsE.inBlock ?_ | refine RunsE.yes rfl ?_ | refine RunsE.no rfl ?_ | refine RunsE.exit rfl ?_)
  refine RunsE.region ?_
  refine OpsE.ex (Ex.call rfl Tryd.call6 (tnew_spec w _ H)) rfl ?_; (try clear H); rintro _ w ⟨b, A, rfl, hA, H⟩
  refine OpsE.ev (Ev.assign rfl) rfl ?_
  refine OpsE.nil ?_
  repeat (first | refine RunsE.seq ?_ | refine RunsE.skip ?_ | refine RunsE.block ?_ | refine RunsE.inBlock ?_ | refine RunsE.yes rfl ?_ | refine RunsE.no rfl ?_ | refine RunsE.exit rfl ?_)
  refine RunsE.region ?_
  refine OpsE.ev (Ev.move rfl) rfl ?_
  refine OpsE.ev (Ev.ptrNilEq (el := 62) rfl rfl (by kernel_rfl)) rfl ?_
  refine OpsE.ev (Ev.move rfl) rfl ?_
  first | (refine OpsE.yes rfl rfl ?_; refine OpsE.ev (Ev.move rfl) rfl ?_) | refine OpsE.no rfl rfl rfl ?_ | refine OpsE.off rfl rfl rfl ?_
  first | (refine OpsE.yes rfl rfl ?_; refine OpsE.ex (Ex.call rfl Tryd.call9 (num_spec 1 w _ hE.right H)) rfl ?_; (try clear H); rintro _ w ⟨rfl, H⟩) | refine OpsE.no rfl rfl rfl ?_ | refine OpsE.off rfl rfl rfl ?_
  first | (refine OpsE.yes rfl rfl ?_; refine OpsE.ev (Ev.neq (r := false) rfl rfl rfl) rfl ?_) | refine OpsE.no rfl rfl rfl ?_ | refine OpsE.off rfl rfl rfl ?_
  refine OpsE.ev ((by first | exact Ev.pickT rfl rfl | exact Ev.pickF rfl rfl)) rfl ?_
  refine OpsE.ev (Ev.move rfl) rfl ?_
  first | (refine OpsE.yes rfl rfl ?_; refine OpsE.ev (Ev.move rfl) rfl ?_) | refine OpsE.no rfl rfl rfl ?_ | refine OpsE.off rfl rfl rfl ?_
  refine OpsE.ev ((by first | exact Ev.pickT rfl rfl | exact Ev.pickF rfl rfl)) rfl ?_
  refine OpsE.ev (Ev.move rfl) rfl ?_
  first | (refine OpsE.yes rfl rfl ?_; refine OpsE.ev (Ev.move rfl) rfl ?_) | refine OpsE.no rfl rfl rfl ?_ | refine OpsE.off rfl rfl rfl ?_
  first | (refine OpsE.yes rfl rfl ?_; refine OpsE.ex (Ex.call rfl Tryd.call13 (ncancel_spec 1 w _ H)) rfl ?_; (try clear H); rintro _ w ⟨rfl, H⟩) | refine OpsE.no rfl rfl rfl ?_ | refine OpsE.off rfl rfl rfl ?_
  first | (refine OpsE.yes rfl rfl ?_; refine OpsE.ex (Ex.call rfl Tryd.call9 (num_spec 1 w _ hE.right H)) rfl ?_; (try clear H); rintro _ w ⟨rfl, H⟩) | refine OpsE.no rfl rfl rfl ?_ | refine OpsE.off rfl rfl rfl ?_
  first | (refine OpsE.yes rfl rfl ?_; refine OpsE.ev (Ev.neq (r := false) rfl rfl rfl) rfl ?_) | refine OpsE.no rfl rfl rfl ?_ | refine OpsE.off rfl rfl rfl ?_
  refine OpsE.ev ((by first | exact Ev.pickT rfl rfl | exact Ev.pickF rfl rfl)) rfl ?_
  refine OpsE.ev (Ev.move rfl) rfl ?_
  first | (refine OpsE.yes rfl rfl ?_; refine OpsE.ev (Ev.move rfl) rfl ?_) | refine OpsE.no rfl rfl rfl ?_ | refine OpsE.off rfl rfl rfl ?_
  first | (refine OpsE.yes rfl rfl ?_; refine OpsE.ex (Ex.call rfl Tryd.call15 (ntlen_spec w _ H)) rfl ?_; (try clear H); rintro _ w ⟨rfl, H⟩) | refine OpsE.no rfl rfl rfl ?_ | refine OpsE.off rfl rfl rfl ?_
  first | (refine OpsE.yes rfl rfl ?_; refine OpsE.ev (Ev.neq (r := false) rfl rfl rfl) rfl ?_) | refine OpsE.no rfl rfl rfl ?_ | refine OpsE.off rfl rfl rfl ?_
  refine OpsE.ev ((by first | exact Ev.pickT rfl rfl | exact Ev.pickF rfl rfl)) rfl ?_
  refine OpsE.ev (Ev.move rfl) rfl ?_
  first | (refine OpsE.yes rfl rfl ?_; refine OpsE.ev (Ev.move rfl) rfl ?_) | refine OpsE.no rfl rfl rfl ?_ | refine OpsE.off rfl rfl rfl ?_
  first | (refine OpsE.yes rfl rfl ?_; refine OpsE.ex (Ex.call rfl Tryd.call14 (npop_spec 9 w _ H)) rfl ?_; (try clear H); rintro _ w ⟨rfl, H⟩) | refine OpsE.no rfl rfl rfl ?_ | refine OpsE.off rfl rfl rfl ?_
  first | (refine OpsE.yes rfl rfl ?_; refine OpsE.ev (Ev.lenSl (d := 46) rfl rfl (by kernel_rfl)) rfl ?_) | refine OpsE.no rfl rfl rfl ?_ | refine OpsE.off rfl rfl rfl ?_
  first | (refine OpsE.yes rfl rfl ?_; refine OpsE.ev (Ev.move rfl) rfl ?_) | refine OpsE.no rfl rfl rfl ?_ | refine OpsE.off rfl rfl rfl ?_
  first | (refine OpsE.yes rfl rfl ?_; refine OpsE.ex (Ex.call rfl Tryd.call11 (nevents_spec w _ H)) rfl ?_; (try clear H); rintro _ w ⟨rfl, H⟩) | refine OpsE.no rfl rfl rfl ?_ | refine OpsE.off rfl rfl rfl ?_
  first | (refine OpsE.yes rfl rfl ?_; refine OpsE.ev (Ev.lenSl (d := 46) rfl rfl (by kernel_rfl)) rfl ?_) | refine OpsE.no rfl rfl rfl ?_ | refine OpsE.off rfl rfl rfl ?_
  first | (refine OpsE.yes rfl rfl ?_; refine OpsE.ev (Ev.add (c := 0) rfl rfl (by decide +kernel)) rfl ?_) | refine OpsE.no rfl rfl rfl ?_ | refine OpsE.off rfl rfl rfl ?_
  first | (refine OpsE.yes rfl rfl ?_; refine OpsE.ev (Ev.neq (r := false) rfl rfl rfl) rfl ?_) | refine OpsE.no rfl rfl rfl ?_ | refine OpsE.off rfl rfl rfl ?_
  refine OpsE.ev ((by first | exact Ev.pickT rfl rfl | exact Ev.pickF rfl rfl)) rfl ?_
  refine OpsE.nil ?_
  repeat (first | refine RunsE.seq ?_ | refine RunsE.skip ?_ | refine RunsE.block ?_ | refine RunsE.inBlock ?_ | refine RunsE.yes rfl ?_ | refine RunsE.no rfl ?_ | refine RunsE.exit rfl ?_)
  repeat (first | refine RunsE.seq ?_ | refine RunsE.skip ?_ | refine RunsE.block ?_ | refine RunsE.inBlock ?_ | refine RunsE.yes rfl ?_ | refine RunsE.no rfl ?_ | refine RunsE.exit rfl ?_)
  refine RunsE.region ?_
  refine OpsE.ev (Ev.buildSt (pl := [(0, 1), (1, 1)]) (zv := .agg #[.slice none 0 0, .int .i64 0]) rfl (by kernel_rfl) (by kernel_rfl) rfl) rfl ?_
  refine OpsE.ex (Ex.alloc (zv := .agg #[.slice none 0 0, .int .i64 0]) H (by kernel_rfl)) rfl ?_; (try clear H); rintro _ w ⟨b9, rfl, H⟩; simp only [Value.cells] at H
  refine OpsE.exn (Ex.storeBlk (n := 2) (vs := tV [] 0 ⟨none, 0⟩) H rfl rfl (by kernel_rfl) rfl (tV_one _ _ _) u0 rfl (Thaw.zero _ _)) ?_; (try clear H); intro _ w H
  refine OpsE.nil ?_
  have HP : QPair F b b9 0 w := .of ⟨[], [], 0, ⟨none, 0⟩, A, [], hA, .nil, Nat.le_refl _, refT_nil, H.mid⟩
  clear H hA A
  repeat (first | refine RunsE.seq ?_ | refine RunsE.skip ?_ | refine RunsE.block ?_ | refine RunsE.inBlock ?_ | refine RunsE.yes rfl ?_ | refine RunsE.no rfl ?_ | refine RunsE.exit rfl ?_)
  refine RunsE.region ?_
  refine OpsE.ev (Ev.assign rfl) rfl ?_
  refine OpsE.nil ?_
  repeat refine RunsE.seq ?_
  refine RunsE.join (fun _ : Unit => []) (fun _ w => ∃ G, SL w (G ++ F)) (fun next => ?_) ?_
  · refine RunsE.block ?_
    refine RunsE.loop (fun i : Nat => [(0, .slice al l.length cl), (8, .pointer (some ⟨b, 0, none⟩)), (9, .pointer (some ⟨b9, 0, none⟩)), (10, .int .i64 (i : Int))])
      (fun i w => i ≤ 80 ∧ QPair F b b9 i w) (fun i => 80 - i) 0 ⟨rfl, rfl, rfl, rfl, trivial⟩ ⟨by omega, HP⟩ ?_
    clear HP
    rintro i w ⟨hi, HP⟩ nextL
    obtain ⟨xs, L, last, x, A, D, hA, hQ, hlk, hR, H⟩ := HP.ex
    by_cases h1 : l.length ≤ i
    ·
      repeat (first | refine RunsE.seq ?_ | refine RunsE.skip ?_ | refine RunsE.block ?_ | refine RunsE.inBlock ?_ | refine RunsE.yes rfl ?_ | refine RunsE.no rfl ?_ | refine RunsE.exit rfl ?_)
      refine RunsE.region ?_
      refine OpsE.ev (Ev.move rfl) rfl ?_
      refine OpsE.ev (Ev.move rfl) rfl ?_
      refine OpsE.ev (Ev.lenSl (d := 53) rfl rfl (by kernel_rfl)) rfl ?_
      refine OpsE.ev (Ev.lss (r := false) rfl rfl (decide_eq_false (by omega))) rfl ?_
      refine OpsE.ev (Ev.move rfl) rfl ?_
      first | (refine OpsE.yes rfl rfl ?_; refine OpsE.ev (Ev.move rfl) rfl ?_) | refine OpsE.no rfl rfl rfl ?_ | refine OpsE.off rfl rfl rfl ?_
      first | (refine OpsE.yes rfl rfl ?_; refine OpsE.ev (Ev.lss rfl rfl) rfl ?_) | refine OpsE.no rfl rfl rfl ?_ | refine OpsE.off rfl rfl rfl ?_
      refine OpsE.ev ((by first | exact Ev.pickT rfl rfl | exact Ev.pickF rfl rfl)) rfl ?_
      refine OpsE.nil ?_
      repeat refine RunsE.seq ?_
      refine RunsE.no rfl ?_
      refine RunsE.exit rfl ?_
      exact next () _ _ ⟨_, by rw [← List.cons_append, ← List.append_assoc] at H; exact H⟩ trivial
    by_cases h2 : i = 80
    ·
      repeat (first | refine RunsE.seq ?_ | refine RunsE.skip ?_ | refine RunsE.block ?_ | refine RunsE.inBlock ?_ | refine RunsE.yes rfl ?_ | refine RunsE.no rfl ?_ | refine RunsE.exit rfl ?_)
      refine RunsE.region ?_
      refine OpsE.ev (Ev.move rfl) rfl ?_
      refine OpsE.ev (Ev.move rfl) rfl ?_
      refine OpsE.ev (Ev.lenSl (d := 53) rfl rfl (by kernel_rfl)) rfl ?_
      refine OpsE.ev (Ev.lss (r := true) rfl rfl (decide_eq_true (by omega))) rfl ?_
      refine OpsE.ev (Ev.move rfl) rfl ?_
      first | (refine OpsE.yes rfl rfl ?_; refine OpsE.ev (Ev.move rfl) rfl ?_) | refine OpsE.no rfl rfl rfl ?_ | refine OpsE.off rfl rfl rfl ?_
      first | (refine OpsE.yes rfl rfl ?_; refine OpsE.ev (Ev.lss (r := false) rfl rfl (decide_eq_false (by omega))) rfl ?_) | refine OpsE.no rfl rfl rfl ?_ | refine OpsE.off rfl rfl rfl ?_
      refine OpsE.ev ((by first | exact Ev.pickT rfl rfl | exact Ev.pickF rfl rfl)) rfl ?_
      refine OpsE.nil ?_
      repeat refine RunsE.seq ?_
      refine RunsE.no rfl ?_
      refine RunsE.exit rfl ?_
      exact next () _ _ ⟨_, by rw [← List.cons_append, ← List.append_assoc] at H; exact H⟩ trivial
    clear next HP
    obtain ⟨a, ha⟩ : ∃ a, l[i]? = some a := ⟨l[i]'(by omega), by simp [show i < l.length by omega]⟩
    obtain ⟨ba, oa, rfl, hat⟩ := hvl.at ha
    obtain ⟨m, hm, _⟩ := u64_nat a.kind
    obtain ⟨k, hk⟩ : ∃ k, k = m % 7 := ⟨_, rfl⟩
    have hk7 : k < 7 := by omega
    have hxl := hQ.perm.length_eq
    have hLl := hQ.len
    repeat (first | refine RunsE.seq ?_ | refine RunsE.skip ?_ | refine RunsE.block ?_ | refine RunsE.inBlock ?_ | refine RunsE.yes rfl ?_ | refine RunsE.no rfl ?_ | refine RunsE.exit rfl ?_)
    refine RunsE.region ?_
    refine OpsE.ev (Ev.move rfl) rfl ?_
    refine OpsE.ev (Ev.move rfl) rfl ?_
    refine OpsE.ev (Ev.lenSl (d := 53) rfl rfl (by kernel_rfl)) rfl ?_
    refine OpsE.ev (Ev.lss (r := true) rfl rfl (decide_eq_true (by omega))) rfl ?_
    refine OpsE.ev (Ev.move rfl) rfl ?_
    first | (refine OpsE.yes rfl rfl ?_; refine OpsE.ev (Ev.move rfl) rfl ?_) | refine OpsE.no rfl rfl rfl ?_ | refine OpsE.off rfl rfl rfl ?_
    first | (refine OpsE.yes rfl rfl ?_; refine OpsE.ev (Ev.lss (r := true) rfl rfl (decide_eq_true (by omega))) rfl ?_) | refine OpsE.no rfl rfl rfl ?_ | refine OpsE.off rfl rfl rfl ?_
    refine OpsE.ev ((by first | exact Ev.pickT rfl rfl | exact Ev.pickF rfl rfl)) rfl ?_
    refine OpsE.nil ?_
    repeat (first | refine RunsE.seq ?_ | refine RunsE.skip ?_ | refine RunsE.block ?_ | refine RunsE.inBlock ?_ | refine RunsE.yes rfl ?_ | refine RunsE.no rfl ?_ | refine RunsE.exit rfl ?_)
    repeat (first | refine RunsE.seq ?_ | refine RunsE.skip ?_ | refine RunsE.block ?_ | refine RunsE.inBlock ?_ | refine RunsE.yes rfl ?_ | refine RunsE.no rfl ?_ | refine RunsE.exit rfl ?_)
    refine RunsE.region ?_
    refine OpsE.ev (Ev.move rfl) rfl ?_
    refine OpsE.ev (Ev.move rfl) rfl ?_
    refine OpsE.ev (Ev.iaSl (n := 53) (sz := 3) (m := i) rfl rfl rfl (by kernel_rfl) (by omega)) rfl ?_
    refine OpsE.ev (Ev.loadAgg (vs := a.vs) H rfl (by kernel_rfl) (fun j v hj => by rw [add_none]; exact (hat j v hj).right.tail.right)) rfl ?_
    refine OpsE.ex (Ex.alloc (zv := .agg #[.int .i64 0, .int .i64 0, .string .empty]) H (by kernel_rfl)) rfl ?_; (try clear H); rintro _ w ⟨b11, rfl, H⟩; simp only [Value.cells] at H
    refine OpsE.exn (Ex.storeBlk (n := 3) (vs := a.vs) H rfl rfl (by kernel_rfl) rfl (by simp [ActT.vs, Value.oneCell']) u0 rfl (Thaw.zero _ _)) ?_; (try clear H); intro _ w H; replace H := H.mid
    refine OpsE.nil ?_
    repeat (first | refine RunsE.seq ?_ | refine RunsE.skip ?_ | refine RunsE.block ?_ | refine RunsE.inBlock ?_ | refine RunsE.yes rfl ?_ | refine RunsE.no rfl ?_ | refine RunsE.exit rfl ?_)
    refine RunsE.region ?_
    refine OpsE.ev (Ev.fieldAddr (o := 0) rfl (by kernel_rfl)) rfl ?_
    refine OpsE.ev (Ev.load (v := .int .i64 a.kind) H rfl (by kernel_rfl) (Rd.right (Rd.mk m0 rfl))) rfl ?_
    refine OpsE.ev (Ev.conv (k' := .u64) (c := (m : Int)) rfl (by kernel_rfl) (by kernel_rfl) hm) rfl ?_
    refine OpsE.ev (Ev.rem (c := (k : Int)) rfl rfl (by omega) (by rw [hk]; exact qrem m 7)) rfl ?_
    refine OpsE.ev (Ev.conv (k' := .i64) (c := (k : Int)) rfl (by kernel_rfl) (by kernel_rfl) (qi64 (by omega) (by omega))) rfl ?_
    refine OpsE.nil ?_
    repeat refine RunsE.seq ?_
    refine RunsE.join (fun _ : Unit => [(0, .slice (some ⟨ba, oa, none⟩) l.length cl), (8, .pointer (some ⟨b, 0, none⟩)), (9, .pointer (some ⟨b9, 0, none⟩)), (10, .int .i64 (i : Int))])
      (fun _ w => QPair F b b9 (i + 1) w) (fun next => ?_) ?_
    · refine RunsE.block ?_
      by_cases k4 : k = 4
      ·
        repeat (first | refine RunsE.seq ?_ | refine RunsE.skip ?_ | refine RunsE.block ?_ | refine RunsE.inBlock ?_ | refine RunsE.yes rfl ?_ | refine RunsE.no rfl ?_ | refine RunsE.exit rfl ?_)
        refine RunsE.region ?_
        refine OpsE.ev (Ev.eql (r := true) rfl rfl (beq_iff_eq.2 (by omega))) rfl ?_
        refine OpsE.ev (Ev.assign rfl) rfl ?_
        refine OpsE.nil ?_
        repeat refine RunsE.seq ?_
        refine RunsE.yes rfl ?_
        repeat (first | refine RunsE.seq ?_ | refine RunsE.skip ?_ | refine RunsE.block ?_ | refine RunsE.inBlock ?_ | refine RunsE.yes rfl ?_ | refine RunsE.no rfl ?_ | refine RunsE.exit rfl ?_)
        refine RunsE.region ?_
        refine OpsE.ev (Ev.move rfl) rfl ?_
        refine OpsE.ev (Ev.fieldAddr (o := 1) rfl (by kernel_rfl)) rfl ?_
        refine OpsE.ev (Ev.load (v := .int .i64 a.n) H rfl (by kernel_rfl) (Rd.right (Rd.mk m0 rfl))) rfl ?_
        refine OpsE.ex (Ex.call rfl Tryd.call13 (cancel_all b xs L last a.n hQ (by omega) A w _ hA H)) rfl ?_; (try clear H); rintro _ w ⟨ys, A, rfl, hQ, hA, H⟩
        refine OpsE.ev (Ev.assign rfl) rfl ?_
        refine OpsE.nil ?_
        repeat (first | refine RunsE.seq ?_ | refine RunsE.skip ?_ | refine RunsE.block ?_ | refine RunsE.inBlock ?_ | refine RunsE.yes rfl ?_ | refine RunsE.no rfl ?_ | refine RunsE.exit rfl ?_)
        refine RunsE.region ?_
        refine OpsE.ev (Ev.loadBlk (n := 2) (vs := tV L last x) H rfl (by kernel_rfl) rfl (List.mem_append_right A m1)) rfl ?_
        refine OpsE.ev (Ev.fieldAddr (o := 1) rfl (by kernel_rfl)) rfl ?_
        refine OpsE.ev (Ev.load (v := .int .i64 a.n) H rfl (by kernel_rfl) (Rd.right (Rd.mk m0 rfl))) rfl ?_
        refine OpsE.ex (Ex.call rfl Tryd.call17 (rcancel_all L last x a.n (by omega) w _ (D ++ F) (fun y hy => List.mem_append_right _ (.tail _ (.tail _ hy))) hR H)) rfl ?_; (try clear H); rintro _ w ⟨B, x', rfl, hR, H⟩
        refine OpsE.ev (Ev.move rfl) rfl ?_
        refine OpsE.ev (Ev.extract rfl rfl) rfl ?_
        refine OpsE.ev (Ev.extract rfl rfl) rfl ?_
        refine OpsE.ex (Ex.alloc (zv := .agg #[.slice none 0 0, .int .i64 0]) H (by kernel_rfl)) rfl ?_; (try clear H); rintro _ w ⟨b13, rfl, H⟩; simp only [Value.cells] at H
        refine OpsE.exn (Ex.storeBlk (n := 2) (vs := tV (L.filter fun e => decide ((e.id : Int) ≠ a.n)) last x') H rfl rfl (by kernel_rfl) rfl (tV_one _ _ _) u0 rfl (Thaw.zero _ _)) ?_; (try clear H); intro _ w H
        refine OpsE.ev (Ev.assign rfl) rfl ?_
        refine OpsE.nil ?_
        repeat (first | refine RunsE.seq ?_ | refine RunsE.skip ?_ | refine RunsE.block ?_ | refine RunsE.inBlock ?_ | refine RunsE.yes rfl ?_ | refine RunsE.no rfl ?_ | refine RunsE.exit rfl ?_)
        refine RunsE.region ?_
        refine OpsE.ev (Ev.loadBlk (n := 2) (vs := tV (L.filter fun e => decide ((e.id : Int) ≠ a.n)) last x') H rfl (by kernel_rfl) rfl m0) rfl ?_
        refine OpsE.exn (Ex.storeBlk (n := 2) (vs := tV (L.filter fun e => decide ((e.id : Int) ≠ a.n)) last x') H rfl rfl (by kernel_rfl) rfl (tV_one _ _ _) (Upd.tail (Upd.skip (Upd.skip u1 A) B)) rfl (Thaw.zero _ _)) ?_; (try clear H); intro _ w H; replace H := H.drop
        refine OpsE.nil ?_
        repeat (first | refine RunsE.seq ?_ | refine RunsE.skip ?_ | refine RunsE.block ?_ | refine RunsE.inBlock ?_ | refine RunsE.yes rfl ?_ | refine RunsE.no rfl ?_ | refine RunsE.exit rfl ?_)
        refine RunsE.region ?_
        refine OpsE.ev (Ev.move rfl) rfl ?_
        refine OpsE.ex (Ex.call rfl Tryd.call9 (num_en _ w _ hE.right.tail.tail.right.right H)) rfl ?_; (try clear H); rintro _ w ⟨rfl, H⟩
        refine OpsE.ev (Ev.move rfl) rfl ?_
        refine OpsE.ev (Ev.neq (r := false) rfl rfl (by simp)) rfl ?_
        refine OpsE.nil ?_
        repeat refine RunsE.seq ?_
        refine RunsE.no rfl ?_
        refine RunsE.skip ?_
        refine RunsE.inBlock ?_
        exact next () _ _ (.of ⟨ys, _, last, x', A, B ++ D, hA, hQ, by omega, by rw [List.append_assoc]; exact hR, H.fin5⟩) ⟨rfl, rfl, rfl, rfl, trivial⟩
      repeat (first | refine RunsE.seq ?_ | refine RunsE.skip ?_ | refine RunsE.block ?_ | refine RunsE.inBlock ?_ | refine RunsE.yes rfl ?_ | refine RunsE.no rfl ?_ | refine RunsE.exit rfl ?_)
      refine RunsE.region ?_
      refine OpsE.ev (Ev.eql (r := false) rfl rfl (beq_eq_false_iff_ne.2 (by omega))) rfl ?_
      refine OpsE.ev (Ev.assign rfl) rfl ?_
      refine OpsE.nil ?_
      repeat refine RunsE.seq ?_
      refine RunsE.no rfl ?_
      repeat (first | refine RunsE.seq ?_ | refine RunsE.skip ?_ | refine RunsE.block ?_ | refine RunsE.inBlock ?_ | refine RunsE.yes rfl ?_ | refine RunsE.no rfl ?_ | refine RunsE.exit rfl ?_)
      refine RunsE.region ?_
      refine OpsE.ev (Ev.eql (r := decide (k = 5)) rfl rfl (by rw [Bool.eq_iff_iff, beq_iff_eq, decide_eq_true_iff]; omega)) rfl ?_
      refine OpsE.ev (Ev.assign rfl) rfl ?_
      refine OpsE.nil ?_
      repeat refine RunsE.seq ?_
      refine (RunsE.join (fun _ : Unit => [(0, .slice (some ⟨ba, oa, none⟩) l.length cl), (8, .pointer (some ⟨b, 0, none⟩)), (9, .pointer (some ⟨b9, 0, none⟩)), (10, .int .i64 (i : Int)), (11, .pointer (some ⟨b11, 0, none⟩)), (134, .bool (decide (k = 5 ∨ k = 6)))])
        (fun _ w => SL w (A ++ ((b11, .cells a.vs.toArray 53 (0, 0)) :: (b9, .cells (tV L last x).toArray 28 (0, 0)) :: (D ++ F)))) (fun next2 => ?_) ?_)
      · by_cases k5 : k = 5
        · have e1 : decide (k = 5) = true := decide_eq_true k5
          repeat refine RunsE.seq ?_
          refine RunsE.yes (congrArg (fun r => some (Value.bool r)) e1) ?_
          refine RunsE.skip ?_
          exact next2 () _ _ H ⟨rfl, rfl, rfl, rfl, rfl, congrArg (fun r => some (Value.bool r)) (e1.trans (decide_eq_true (.inl k5)).symm), trivial⟩
        · have e1 : decide (k = 5) = false := decide_eq_false k5
          repeat refine RunsE.seq ?_
          refine RunsE.no (congrArg (fun r => some (Value.bool r)) e1) ?_
          repeat (first | refine RunsE.seq ?_ | refine RunsE.skip ?_ | refine RunsE.block ?_ | refine RunsE.inBlock ?_ | refine RunsE.yes rfl ?_ | refine RunsE.no rfl ?_ | refine RunsE.exit rfl ?_)
          refine RunsE.region ?_
          refine OpsE.ev (Ev.eql (r := decide (k = 5 ∨ k = 6)) rfl rfl (by rw [Bool.eq_iff_iff, beq_iff_eq, decide_eq_true_iff]; omega)) rfl ?_
          refine OpsE.ev (Ev.assign rfl) rfl ?_
          refine OpsE.nil ?_
          exact next2 () _ _ H ⟨rfl, rfl, rfl, rfl, rfl, rfl, trivial⟩
      clear H
      rintro _ w H
      by_cases k56 : k = 5 ∨ k = 6
      · repeat refine RunsE.seq ?_
        refine RunsE.yes (congrArg (fun r => some (Value.bool r)) (decide_eq_true k56)) ?_
        repeat (first | refine RunsE.seq ?_ | refine RunsE.skip ?_ | refine RunsE.block ?_ | refine RunsE.inBlock ?_ | refine RunsE.yes rfl ?_ | refine RunsE.no rfl ?_ | refine RunsE.exit rfl ?_)
        refine RunsE.region ?_
        refine OpsE.ev (Ev.move rfl) rfl ?_
        refine OpsE.ev (Ev.fieldAddr (o := 1) rfl (by kernel_rfl)) rfl ?_
        refine OpsE.ev (Ev.load (v := .int .i64 a.n) H rfl (by kernel_rfl) (Rd.right (Rd.mk m0 rfl))) rfl ?_
        refine OpsE.ex (Ex.call rfl Tryd.call14 (tpop_spec b xs last a.n (by omega) A w _ hA H)) rfl ?_; (try clear H); rintro vl w ⟨out, ys, Bo, A, hso, hp, hA, H⟩
        refine OpsE.ev (Ev.assign rfl) rfl ?_
        refine OpsE.nil ?_
        repeat (first | refine RunsE.seq ?_ | refine RunsE.skip ?_ | refine RunsE.block ?_ | refine RunsE.inBlock ?_ | refine RunsE.yes rfl ?_ | refine RunsE.no rfl ?_ | refine RunsE.exit rfl ?_)
        refine RunsE.region ?_
        refine OpsE.ev (Ev.loadBlk (n := 2) (vs := tV L last x) H rfl (by kernel_rfl) rfl (List.mem_append_right _ (List.mem_append_right A m1))) rfl ?_
        refine OpsE.ev (Ev.fieldAddr (o := 1) rfl (by kernel_rfl)) rfl ?_
        refine OpsE.ev (Ev.load (v := .int .i64 a.n) H rfl (by kernel_rfl) (Rd.right (Rd.right (Rd.mk m0 rfl)))) rfl ?_
        refine OpsE.ex (Ex.call rfl Tryd.call18 (rpop_spec L last x a.n (by omega) w _ (D ++ F) (fun y hy => List.mem_append_right _ (List.mem_append_right _ (.tail _ (.tail _ hy)))) hR H)) rfl ?_; (try clear H); rintro _ w ⟨n, x', u, hn, hn1, hn2, rfl, hR, hu, H⟩; obtain ⟨rfl, hQ⟩ := hQ.pop hp hn hn1 hn2
        refine OpsE.ev (Ev.move rfl) rfl ?_
        refine OpsE.ev (Ev.extract rfl rfl) rfl ?_
        refine OpsE.ev (Ev.extract rfl rfl) rfl ?_
        refine OpsE.ex (Ex.alloc (zv := .agg #[.slice none 0 0, .int .i64 0]) H (by kernel_rfl)) rfl ?_; (try clear H); rintro _ w ⟨b16, rfl, H⟩; simp only [Value.cells] at H
        refine OpsE.exn (Ex.storeBlk (n := 2) (vs := tV (L.drop n) last x') H rfl rfl (by kernel_rfl) rfl (tV_one _ _ _) u0 rfl (Thaw.zero _ _)) ?_; (try clear H); intro _ w H
        refine OpsE.ev (Ev.assign rfl) rfl ?_
        refine OpsE.nil ?_
        repeat (first | refine RunsE.seq ?_ | refine RunsE.skip ?_ | refine RunsE.block ?_ | refine RunsE.inBlock ?_ | refine RunsE.yes rfl ?_ | refine RunsE.no rfl ?_ | refine RunsE.exit rfl ?_)
        refine RunsE.region ?_
        refine OpsE.ev (Ev.loadBlk (n := 2) (vs := tV (L.drop n) last x') H rfl (by kernel_rfl) rfl m0) rfl ?_
        refine OpsE.exn (Ex.storeBlk (n := 2) (vs := tV (L.drop n) last x') H rfl rfl (by kernel_rfl) rfl (tV_one _ _ _) (Upd.tail (Upd.skip (Upd.skip u1 A) Bo)) rfl (Thaw.zero _ _)) ?_; (try clear H); intro _ w H; replace H := H.drop
        refine OpsE.nil ?_
        repeat (first | refine RunsE.seq ?_ | refine RunsE.skip ?_ | refine RunsE.block ?_ | refine RunsE.inBlock ?_ | refine RunsE.yes rfl ?_ | refine RunsE.no rfl ?_ | refine RunsE.exit rfl ?_)
        refine RunsE.region ?_
        refine OpsE.ev (Ev.move rfl) rfl ?_
        refine OpsE.ev (Ev.move rfl) rfl ?_
        refine OpsE.ex (Ex.call rfl Tryd.call10 (evs_spec (L.take n) _ _ (by rw [List.length_take]; omega) w _ (hso.rdS fun _ => rfl) (hu.sub fun p hp => List.mem_append_right _ (List.mem_append_right _ (.tail _ (.tail _ hp)))) H)) rfl ?_; (try clear H); rintro _ w ⟨rfl, H⟩
        refine OpsE.ev (Ev.not rfl) rfl ?_
        refine OpsE.nil ?_
        repeat refine RunsE.seq ?_
        refine RunsE.no rfl ?_
        refine RunsE.skip ?_
        refine RunsE.inBlock ?_
        exact next () _ _ (.of ⟨ys, _, last, x', A, D, hA, hQ, by omega, hR, (SL.fin5 (B := []) H.dropL)⟩) ⟨rfl, rfl, rfl, rfl, trivial⟩
      · repeat refine RunsE.seq ?_
        refine RunsE.no (congrArg (fun r => some (Value.bool r)) (decide_eq_false k56)) ?_
        repeat (first | refine RunsE.seq ?_ | refine RunsE.skip ?_ | refine RunsE.block ?_ | refine RunsE.inBlock ?_ | refine RunsE.yes rfl ?_ | refine RunsE.no rfl ?_ | refine RunsE.exit rfl ?_)
        refine RunsE.region ?_
        refine OpsE.ev (Ev.move rfl) rfl ?_
        refine OpsE.ev (Ev.fieldAddr (o := 1) rfl (by kernel_rfl)) rfl ?_
        refine OpsE.ev (Ev.load (v := .int .i64 a.n) H rfl (by kernel_rfl) (Rd.right (Rd.mk m0 rfl))) rfl ?_
        refine OpsE.ev (Ev.fieldAddr (o := 2) rfl (by kernel_rfl)) rfl ?_
        refine OpsE.ev (Ev.load (v := .string ⟨a.name.toArray⟩) H rfl (by kernel_rfl) (Rd.right (Rd.mk m0 rfl))) rfl ?_
        refine OpsE.ex (Ex.call rfl Tryd.call7 (add_all b xs last a.n a.name (by omega) (by omega) A w _ hA H)) rfl ?_; (try clear H); rintro _ w ⟨ys, last', A, rfl, hadd, hA, H⟩
        refine OpsE.ev (Ev.move rfl) rfl ?_
        refine OpsE.ev (Ev.extract rfl rfl) rfl ?_
        refine OpsE.ev (Ev.extract rfl rfl) rfl ?_
        refine OpsE.ev (Ev.assign rfl) rfl ?_
        refine OpsE.ev (Ev.assign rfl) rfl ?_
        refine OpsE.nil ?_
        repeat (first | refine RunsE.seq ?_ | refine RunsE.skip ?_ | refine RunsE.block ?_ | refine RunsE.inBlock ?_ | refine RunsE.yes rfl ?_ | refine RunsE.no rfl ?_ | refine RunsE.exit rfl ?_)
        refine RunsE.region ?_
        refine OpsE.ev (Ev.loadBlk (n := 2) (vs := tV L last x) H rfl (by kernel_rfl) rfl (List.mem_append_right A m1)) rfl ?_
        refine OpsE.ev (Ev.fieldAddr (o := 1) rfl (by kernel_rfl)) rfl ?_
        refine OpsE.ev (Ev.load (v := .int .i64 a.n) H rfl (by kernel_rfl) (Rd.right (Rd.mk m0 rfl))) rfl ?_
        refine OpsE.ev (Ev.fieldAddr (o := 2) rfl (by kernel_rfl)) rfl ?_
        refine OpsE.ev (Ev.load (v := .string ⟨a.name.toArray⟩) H rfl (by kernel_rfl) (Rd.right (Rd.mk m0 rfl))) rfl ?_
        refine OpsE.ex (Ex.call rfl Tryd.call8 (radd_all L last x a.n a.name (by omega) (by omega) w _ (D ++ F) (fun y hy => List.mem_append_right _ (.tail _ (.tail _ hy))) hR H)) rfl ?_; (try clear H); rintro _ w ⟨L', l2, B, x', rfl, hradd, hR, H⟩; obtain ⟨hll, hQ, hlb⟩ := rel_add hQ hadd hradd; subst hll
        refine OpsE.ev (Ev.move rfl) rfl ?_
        refine OpsE.ev (Ev.extract rfl rfl) rfl ?_
        refine OpsE.ev (Ev.extract rfl rfl) rfl ?_
        refine OpsE.ev (Ev.extract rfl rfl) rfl ?_
        refine OpsE.ex (Ex.alloc (zv := .agg #[.slice none 0 0, .int .i64 0]) H (by kernel_rfl)) rfl ?_; (try clear H); rintro _ w ⟨b20, rfl, H⟩; simp only [Value.cells] at H
        refine OpsE.exn (Ex.storeBlk (n := 2) (vs := tV L' last' x') H rfl rfl (by kernel_rfl) rfl (tV_one _ _ _) u0 rfl (Thaw.zero _ _)) ?_; (try clear H); intro _ w H
        refine OpsE.ev (Ev.assign rfl) rfl ?_
        refine OpsE.ev (Ev.assign rfl) rfl ?_
        refine OpsE.nil ?_
        repeat (first | refine RunsE.seq ?_ | refine RunsE.skip ?_ | refine RunsE.block ?_ | refine RunsE.inBlock ?_ | refine RunsE.yes rfl ?_ | refine RunsE.no rfl ?_ | refine RunsE.exit rfl ?_)
        refine RunsE.region ?_
        refine OpsE.ev (Ev.loadBlk (n := 2) (vs := tV L' last' x') H rfl (by kernel_rfl) rfl m0) rfl ?_
        refine OpsE.exn (Ex.storeBlk (n := 2) (vs := tV L' last' x') H rfl rfl (by kernel_rfl) rfl (tV_one _ _ _) (Upd.tail (Upd.skip (Upd.skip u1 A) B)) rfl (Thaw.zero _ _)) ?_; (try clear H); intro _ w H; replace H := H.drop
        refine OpsE.nil ?_
        repeat (first | refine RunsE.seq ?_ | refine RunsE.skip ?_ | refine RunsE.block ?_ | refine RunsE.inBlock ?_ | refine RunsE.yes rfl ?_ | refine RunsE.no rfl ?_ | refine RunsE.exit rfl ?_)
        refine RunsE.region ?_
        refine OpsE.ev (Ev.move rfl) rfl ?_
        refine OpsE.ev (Ev.move rfl) rfl ?_
        refine OpsE.ev (Ev.neq (r := false) rfl rfl (by simp)) rfl ?_
        refine OpsE.ev (Ev.move rfl) rfl ?_
        first | (refine OpsE.yes rfl rfl ?_; refine OpsE.ev (Ev.move rfl) rfl ?_) | refine OpsE.no rfl rfl rfl ?_ | refine OpsE.off rfl rfl rfl ?_
        first | (refine OpsE.yes rfl rfl ?_; refine OpsE.ex (Ex.call rfl Tryd.call9 (num_en _ w _ hE.right.tail.tail.right.right H)) rfl ?_; (try clear H); rintro _ w ⟨rfl, H⟩) | refine OpsE.no rfl rfl rfl ?_ | refine OpsE.off rfl rfl rfl ?_
        first | (refine OpsE.yes rfl rfl ?_; refine OpsE.ev (Ev.move rfl) rfl ?_) | refine OpsE.no rfl rfl rfl ?_ | refine OpsE.off rfl rfl rfl ?_
        first | (refine OpsE.yes rfl rfl ?_; refine OpsE.ev (Ev.neq (r := false) rfl rfl (by simp)) rfl ?_) | refine OpsE.no rfl rfl rfl ?_ | refine OpsE.off rfl rfl rfl ?_
        refine OpsE.ev ((by first | exact Ev.pickT rfl rfl | exact Ev.pickF rfl rfl)) rfl ?_
        refine OpsE.nil ?_
        repeat refine RunsE.seq ?_
        refine RunsE.no rfl ?_
        refine RunsE.skip ?_
        refine RunsE.inBlock ?_
        exact next () _ _ (.of ⟨ys, _, last', x', A, B ++ D, hA, hQ, by omega, by rw [List.append_assoc]; exact hR, H.fin5⟩) ⟨rfl, rfl, rfl, rfl, trivial⟩
    clear H
    rintro _ w HP
    obtain ⟨xs, L, last, x, A, D, hA, hQ, hlk, hR, H⟩ := HP.ex
    have hxl := hQ.perm.length_eq
    have hLl := hQ.len
    repeat (first | refine RunsE.seq ?_ | refine RunsE.skip ?_ | refine RunsE.block ?_ | refine RunsE.inBlock ?_ | refine RunsE.yes rfl ?_ | refine RunsE.no rfl ?_ | refine RunsE.exit rfl ?_)
    refine RunsE.region ?_
    refine OpsE.ev (Ev.move rfl) rfl ?_
    refine OpsE.ex (Ex.call rfl Tryd.call16 (next_all b xs L last hQ A w _ hA H)) rfl ?_; (try clear H); rintro _ w ⟨rfl, H⟩
    refine OpsE.ev (Ev.move rfl) rfl ?_
    refine OpsE.ev (Ev.extract rfl rfl) rfl ?_
    refine OpsE.ev (Ev.extract rfl rfl) rfl ?_
    refine OpsE.ev (Ev.assign rfl) rfl ?_
    refine OpsE.ev (Ev.assign rfl) rfl ?_
    refine OpsE.nil ?_
    clear HP
    have hev : ∀ {out : List TEv}, out.Perm xs → out.Pairwise TEv.le → out = L := fun hp hso => hQ.events hp hso
    by_cases h0 : L.length = 0
    · have e0 : decide (0 < L.length) = false := decide_eq_false (by omega)
      have e1 : nDue L = 0 := by unfold nDue; rw [if_pos h0]
      rw [e0, e1]
      repeat (first | refine RunsE.seq ?_ | refine RunsE.skip ?_ | refine RunsE.block ?_ | refine RunsE.inBlock ?_ | refine RunsE.yes rfl ?_ | refine RunsE.no rfl ?_ | refine RunsE.exit rfl ?_)
      refine RunsE.drawS H [] (by kernel_rfl) ?_; (try clear H); intro w H
      refine OpsD.take 0 rfl (by kernel_rfl) (by first | exact H | exact H.drop | exact H.drop.drop | exact H.dropL | exact H.drop.dropL | exact H.dropL.drop | exact H.dropL.dropL | exact H.dropMid) (fun w H => Ev.move rfl) rfl ?_
      refine OpsD.take 2 rfl (by kernel_rfl) (by first | exact H | exact H.drop | exact H.drop.drop | exact H.dropL | exact H.drop.dropL | exact H.dropL.drop | exact H.dropL.dropL | exact H.dropMid) (fun w H => Ev.fieldAddr (o := 0) rfl (by kernel_rfl)) rfl ?_
      refine OpsD.take 3 rfl (by kernel_rfl) (by first | exact H | exact H.drop | exact H.drop.drop | exact H.dropL | exact H.drop.dropL | exact H.dropL.drop | exact H.dropL.dropL | exact H.dropMid) (fun w H => Ev.load H rfl (by kernel_rfl) (Rd.right (Rd.mk m0 rfl))) rfl ?_
      refine OpsD.one 1 (by kernel_rfl) (StepD.ex rfl (Ex.call rfl Tryd.call11 (events_spec b xs last (by omega) (fun e he => hQ.due e (hQ.perm.subset he)) A w _ hA H)) rfl ?_); (try clear H); rintro _ w ⟨out, B, hs, hp, hso, H⟩; obtain rfl := hev hp hso; obtain ⟨ae, ce, rfl⟩ := hs.len; refine ⟨(by first | exact H | exact H.drop | exact H.drop.drop | exact H.dropL | exact H.drop.dropL | exact H.dropL.drop | exact H.dropL.dropL | exact H.dropMid), ?_⟩
      refine OpsD.one 4 (by kernel_rfl) (StepD.ex rfl (Ex.call rfl Tryd.call10 (evs_spec out _ _ (by omega) w _ (hs.rdS fun _ => rfl) (hR.sub fun p hp => List.mem_append_right _ (List.mem_append_right _ (.tail _ hp))) H)) rfl ?_); (try clear H); rintro _ w ⟨rfl, H⟩; refine ⟨(by first | exact H | exact H.drop | exact H.drop.drop | exact H.dropL | exact H.drop.dropL | exact H.dropL.drop | exact H.dropL.dropL | exact H.dropMid), ?_⟩
      refine OpsD.take 5 rfl (by kernel_rfl) (by first | exact H | exact H.drop | exact H.drop.drop | exact H.dropL | exact H.drop.dropL | exact H.dropL.drop | exact H.dropL.dropL | exact H.dropMid) (fun w H => Ev.not rfl) rfl ?_
      refine OpsD.take 6 rfl (by kernel_rfl) (by first | exact H | exact H.drop | exact H.drop.drop | exact H.dropL | exact H.drop.dropL | exact H.dropL.drop | exact H.dropL.dropL | exact H.dropMid) (fun w H => Ev.move rfl) rfl ?_
      first | refine OpsD.takeYes 7 rfl (by kernel_rfl) rfl rfl (by first | exact H | exact H.drop | exact H.drop.drop | exact H.dropL | exact H.drop.dropL | exact H.dropL.drop | exact H.dropL.dropL | exact H.dropMid) (fun w H => Ev.move rfl) rfl ?_ | refine OpsD.takeNo 7 rfl (by kernel_rfl) rfl rfl (by first | exact H | exact H.drop | exact H.drop.drop | exact H.dropL | exact H.drop.dropL | exact H.dropL.drop | exact H.dropL.dropL | exact H.dropMid) rfl ?_ | refine OpsD.takeOff 7 rfl (by kernel_rfl) rfl rfl (by first | exact H | exact H.drop | exact H.drop.drop | exact H.dropL | exact H.drop.dropL | exact H.dropL.drop | exact H.dropL.dropL | exact H.dropMid) rfl ?_
      first | refine OpsD.takeYes 9 rfl (by kernel_rfl) rfl rfl (by first | exact H | exact H.drop | exact H.drop.drop | exact H.dropL | exact H.drop.dropL | exact H.dropL.drop | exact H.dropL.dropL | exact H.dropMid) (fun w H => Ev.fieldAddr (o := 0) rfl (by kernel_rfl)) rfl ?_ | refine OpsD.takeNo 9 rfl (by kernel_rfl) rfl rfl (by first | exact H | exact H.drop | exact H.drop.drop | exact H.dropL | exact H.drop.dropL | exact H.dropL.drop | exact H.dropL.dropL | exact H.dropMid) rfl ?_ | refine OpsD.takeOff 9 rfl (by kernel_rfl) rfl rfl (by first | exact H | exact H.drop | exact H.drop.drop | exact H.dropL | exact H.drop.dropL | exact H.dropL.drop | exact H.dropL.dropL | exact H.dropMid) rfl ?_
      first | refine OpsD.takeYes 10 rfl (by kernel_rfl) rfl rfl (by first | exact H | exact H.drop | exact H.drop.drop | exact H.dropL | exact H.drop.dropL | exact H.dropL.drop | exact H.dropL.dropL | exact H.dropMid) (fun w H => Ev.load H rfl (by kernel_rfl) (Rd.right (Rd.mk m0 rfl))) rfl ?_ | refine OpsD.takeNo 10 rfl (by kernel_rfl) rfl rfl (by first | exact H | exact H.drop | exact H.drop.drop | exact H.dropL | exact H.drop.dropL | exact H.dropL.drop | exact H.dropL.dropL | exact H.dropMid) rfl ?_ | refine OpsD.takeOff 10 rfl (by kernel_rfl) rfl rfl (by first | exact H | exact H.drop | exact H.drop.drop | exact H.dropL | exact H.drop.dropL | exact H.dropL.drop | exact H.dropL.dropL | exact H.dropMid) rfl ?_
      first | refine OpsD.takeYes 11 rfl (by kernel_rfl) rfl rfl (by first | exact H | exact H.drop | exact H.drop.drop | exact H.dropL | exact H.drop.dropL | exact H.dropL.drop | exact H.dropL.dropL | exact H.dropMid) (fun w H => Ev.lenSl (d := 58) rfl rfl (by kernel_rfl)) rfl ?_ | refine OpsD.takeNo 11 rfl (by kernel_rfl) rfl rfl (by first | exact H | exact H.drop | exact H.drop.drop | exact H.dropL | exact H.drop.dropL | exact H.dropL.drop | exact H.dropL.dropL | exact H.dropMid) rfl ?_ | refine OpsD.takeOff 11 rfl (by kernel_rfl) rfl rfl (by first | exact H | exact H.drop | exact H.drop.drop | exact H.dropL | exact H.drop.dropL | exact H.dropL.drop | exact H.dropL.dropL | exact H.dropMid) rfl ?_
      first | (refine OpsD.one 8 (by kernel_rfl) (StepD.exYes rfl rfl rfl (Ex.call rfl Tryd.call15 (tlen_spec b xs last A w _ hA H.swapL)) rfl ?_); (try clear H); rintro _ w ⟨rfl, H⟩; replace H := H.swapL; refine ⟨(by first | exact H | exact H.drop | exact H.drop.drop | exact H.dropL | exact H.drop.dropL | exact H.dropL.drop | exact H.dropL.dropL | exact H.dropMid), ?_⟩) | refine OpsD.takeNo 8 rfl (by kernel_rfl) rfl rfl (by first | exact H | exact H.drop | exact H.drop.drop | exact H.dropL | exact H.drop.dropL | exact H.dropL.drop | exact H.dropL.dropL | exact H.dropMid) rfl ?_ | refine OpsD.takeOff 8 rfl (by kernel_rfl) rfl rfl (by first | exact H | exact H.drop | exact H.drop.drop | exact H.dropL | exact H.drop.dropL | exact H.dropL.drop | exact H.dropL.dropL | exact H.dropMid) rfl ?_
      first | refine OpsD.takeYes 12 rfl (by kernel_rfl) rfl rfl (by first | exact H | exact H.drop | exact H.drop.drop | exact H.dropL | exact H.drop.dropL | exact H.dropL.drop | exact H.dropL.dropL | exact H.dropMid) (fun w H => Ev.neq (r := false) rfl rfl (bne_eq_false_iff_eq.2 (by omega))) rfl ?_ | refine OpsD.takeNo 12 rfl (by kernel_rfl) rfl rfl (by first | exact H | exact H.drop | exact H.drop.drop | exact H.dropL | exact H.drop.dropL | exact H.dropL.drop | exact H.dropL.dropL | exact H.dropMid) rfl ?_ | refine OpsD.takeOff 12 rfl (by kernel_rfl) rfl rfl (by first | exact H | exact H.drop | exact H.drop.drop | exact H.dropL | exact H.drop.dropL | exact H.dropL.drop | exact H.dropL.dropL | exact H.dropMid) rfl ?_
      refine OpsD.take 13 rfl (by kernel_rfl) (by first | exact H | exact H.drop | exact H.drop.drop | exact H.dropL | exact H.drop.dropL | exact H.dropL.drop | exact H.dropL.dropL | exact H.dropMid) (fun w H => (by first | exact Ev.pickT rfl rfl | exact Ev.pickF rfl rfl)) rfl ?_
      refine OpsD.take 14 rfl (by kernel_rfl) (by first | exact H | exact H.drop | exact H.drop.drop | exact H.dropL | exact H.drop.dropL | exact H.dropL.drop | exact H.dropL.dropL | exact H.dropMid) (fun w H => Ev.move rfl) rfl ?_
      first | refine OpsD.takeYes 15 rfl (by kernel_rfl) rfl rfl (by first | exact H | exact H.drop | exact H.drop.drop | exact H.dropL | exact H.drop.dropL | exact H.dropL.drop | exact H.dropL.dropL | exact H.dropMid) (fun w H => Ev.move rfl) rfl ?_ | refine OpsD.takeNo 15 rfl (by kernel_rfl) rfl rfl (by first | exact H | exact H.drop | exact H.drop.drop | exact H.dropL | exact H.drop.dropL | exact H.dropL.drop | exact H.dropL.dropL | exact H.dropMid) rfl ?_ | refine OpsD.takeOff 15 rfl (by kernel_rfl) rfl rfl (by first | exact H | exact H.drop | exact H.drop.drop | exact H.dropL | exact H.drop.dropL | exact H.dropL.drop | exact H.dropL.dropL | exact H.dropMid) rfl ?_
      first | refine OpsD.takeYes 16 rfl (by kernel_rfl) rfl rfl (by first | exact H | exact H.drop | exact H.drop.drop | exact H.dropL | exact H.drop.dropL | exact H.dropL.drop | exact H.dropL.dropL | exact H.dropMid) (fun w H => Ev.fieldAddr (o := 0) rfl (by kernel_rfl)) rfl ?_ | refine OpsD.takeNo 16 rfl (by kernel_rfl) rfl rfl (by first | exact H | exact H.drop | exact H.drop.drop | exact H.dropL | exact H.drop.dropL | exact H.dropL.drop | exact H.dropL.dropL | exact H.dropMid) rfl ?_ | refine OpsD.takeOff 16 rfl (by kernel_rfl) rfl rfl (by first | exact H | exact H.drop | exact H.drop.drop | exact H.dropL | exact H.drop.dropL | exact H.dropL.drop | exact H.dropL.dropL | exact H.dropMid) rfl ?_
      first | refine OpsD.takeYes 17 rfl (by kernel_rfl) rfl rfl (by first | exact H | exact H.drop | exact H.drop.drop | exact H.dropL | exact H.drop.dropL | exact H.dropL.drop | exact H.dropL.dropL | exact H.dropMid) (fun w H => Ev.load H rfl (by kernel_rfl) (Rd.right (Rd.mk m0 rfl))) rfl ?_ | refine OpsD.takeNo 17 rfl (by kernel_rfl) rfl rfl (by first | exact H | exact H.drop | exact H.drop.drop | exact H.dropL | exact H.drop.dropL | exact H.dropL.drop | exact H.dropL.dropL | exact H.dropMid) rfl ?_ | refine OpsD.takeOff 17 rfl (by kernel_rfl) rfl rfl (by first | exact H | exact H.drop | exact H.drop.drop | exact H.dropL | exact H.drop.dropL | exact H.dropL.drop | exact H.dropL.dropL | exact H.dropMid) rfl ?_
      first | refine OpsD.takeYes 18 rfl (by kernel_rfl) rfl rfl (by first | exact H | exact H.drop | exact H.drop.drop | exact H.dropL | exact H.drop.dropL | exact H.dropL.drop | exact H.dropL.dropL | exact H.dropMid) (fun w H => Ev.lenSl (d := 58) rfl rfl (by kernel_rfl)) rfl ?_ | refine OpsD.takeNo 18 rfl (by kernel_rfl) rfl rfl (by first | exact H | exact H.drop | exact H.drop.drop | exact H.dropL | exact H.drop.dropL | exact H.dropL.drop | exact H.dropL.dropL | exact H.dropMid) rfl ?_ | refine OpsD.takeOff 18 rfl (by kernel_rfl) rfl rfl (by first | exact H | exact H.drop | exact H.drop.drop | exact H.dropL | exact H.drop.dropL | exact H.dropL.drop | exact H.dropL.dropL | exact H.dropMid) rfl ?_
      first | refine OpsD.takeYes 19 rfl (by kernel_rfl) rfl rfl (by first | exact H | exact H.drop | exact H.drop.drop | exact H.dropL | exact H.drop.dropL | exact H.dropL.drop | exact H.dropL.dropL | exact H.dropMid) (fun w H => Ev.gtr (r := false) rfl rfl (decide_eq_false (by omega))) rfl ?_ | refine OpsD.takeNo 19 rfl (by kernel_rfl) rfl rfl (by first | exact H | exact H.drop | exact H.drop.drop | exact H.dropL | exact H.drop.dropL | exact H.dropL.drop | exact H.dropL.dropL | exact H.dropMid) rfl ?_ | refine OpsD.takeOff 19 rfl (by kernel_rfl) rfl rfl (by first | exact H | exact H.drop | exact H.drop.drop | exact H.dropL | exact H.drop.dropL | exact H.dropL.drop | exact H.dropL.dropL | exact H.dropMid) rfl ?_
      first | refine OpsD.takeYes 20 rfl (by kernel_rfl) rfl rfl (by first | exact H | exact H.drop | exact H.drop.drop | exact H.dropL | exact H.drop.dropL | exact H.dropL.drop | exact H.dropL.dropL | exact H.dropMid) (fun w H => Ev.boolNe (r := false) rfl rfl Tryd.underlying4) rfl ?_ | refine OpsD.takeNo 20 rfl (by kernel_rfl) rfl rfl (by first | exact H | exact H.drop | exact H.drop.drop | exact H.dropL | exact H.drop.dropL | exact H.dropL.drop | exact H.dropL.dropL | exact H.dropMid) rfl ?_ | refine OpsD.takeOff 20 rfl (by kernel_rfl) rfl rfl (by first | exact H | exact H.drop | exact H.drop.drop | exact H.dropL | exact H.drop.dropL | exact H.dropL.drop | exact H.dropL.dropL | exact H.dropMid) rfl ?_
      refine OpsD.take 21 rfl (by kernel_rfl) (by first | exact H | exact H.drop | exact H.drop.drop | exact H.dropL | exact H.drop.dropL | exact H.dropL.drop | exact H.dropL.dropL | exact H.dropMid) (fun w H => (by first | exact Ev.pickT rfl rfl | exact Ev.pickF rfl rfl)) rfl ?_
      refine OpsD.take 22 rfl (by kernel_rfl) (by first | exact H | exact H.drop | exact H.drop.drop | exact H.dropL | exact H.drop.dropL | exact H.dropL.drop | exact H.dropL.dropL | exact H.dropMid) (fun w H => Ev.move rfl) rfl ?_
      first | refine OpsD.takeYes 23 rfl (by kernel_rfl) rfl rfl (by first | exact H | exact H.drop | exact H.drop.drop | exact H.dropL | exact H.drop.dropL | exact H.dropL.drop | exact H.dropL.dropL | exact H.dropMid) (fun w H => Ev.move rfl) rfl ?_ | refine OpsD.takeNo 23 rfl (by kernel_rfl) rfl rfl (by first | exact H | exact H.drop | exact H.drop.drop | exact H.dropL | exact H.drop.dropL | exact H.dropL.drop | exact H.dropL.dropL | exact H.dropMid) rfl ?_ | refine OpsD.takeOff 23 rfl (by kernel_rfl) rfl rfl (by first | exact H | exact H.drop | exact H.drop.drop | exact H.dropL | exact H.drop.dropL | exact H.dropL.drop | exact H.dropL.dropL | exact H.dropMid) rfl ?_
      first | refine OpsD.takeYes 24 rfl (by kernel_rfl) rfl rfl (by first | exact H | exact H.drop | exact H.drop.drop | exact H.dropL | exact H.drop.dropL | exact H.dropL.drop | exact H.dropL.dropL | exact H.dropMid) (fun w H => Ev.move rfl) rfl ?_ | refine OpsD.takeNo 24 rfl (by kernel_rfl) rfl rfl (by first | exact H | exact H.drop | exact H.drop.drop | exact H.dropL | exact H.drop.dropL | exact H.dropL.drop | exact H.dropL.dropL | exact H.dropMid) rfl ?_ | refine OpsD.takeOff 24 rfl (by kernel_rfl) rfl rfl (by first | exact H | exact H.drop | exact H.drop.drop | exact H.dropL | exact H.drop.dropL | exact H.dropL.drop | exact H.dropL.dropL | exact H.dropMid) rfl ?_
      first | refine OpsD.takeYes 25 rfl (by kernel_rfl) rfl rfl (by first | exact H | exact H.drop | exact H.drop.drop | exact H.dropL | exact H.drop.dropL | exact H.dropL.drop | exact H.dropL.dropL | exact H.dropMid) (fun w H => Ev.move rfl) rfl ?_ | refine OpsD.takeNo 25 rfl (by kernel_rfl) rfl rfl (by first | exact H | exact H.drop | exact H.drop.drop | exact H.dropL | exact H.drop.dropL | exact H.dropL.drop | exact H.dropL.dropL | exact H.dropMid) rfl ?_ | refine OpsD.takeOff 25 rfl (by kernel_rfl) rfl rfl (by first | exact H | exact H.drop | exact H.drop.drop | exact H.dropL | exact H.drop.dropL | exact H.dropL.drop | exact H.dropL.dropL | exact H.dropMid) rfl ?_
      first | refine OpsD.takeYes 26 rfl (by kernel_rfl) rfl rfl (by first | exact H | exact H.drop | exact H.drop.drop | exact H.dropL | exact H.drop.dropL | exact H.dropL.drop | exact H.dropL.dropL | exact H.dropMid) (fun w H => Ev.fieldAddr (o := 0) rfl (by kernel_rfl)) rfl ?_ | refine OpsD.takeNo 26 rfl (by kernel_rfl) rfl rfl (by first | exact H | exact H.drop | exact H.drop.drop | exact H.dropL | exact H.drop.dropL | exact H.dropL.drop | exact H.dropL.dropL | exact H.dropMid) rfl ?_ | refine OpsD.takeOff 26 rfl (by kernel_rfl) rfl rfl (by first | exact H | exact H.drop | exact H.drop.drop | exact H.dropL | exact H.drop.dropL | exact H.dropL.drop | exact H.dropL.dropL | exact H.dropMid) rfl ?_
      first | refine OpsD.takeYes 27 rfl (by kernel_rfl) rfl rfl (by first | exact H | exact H.drop | exact H.drop.drop | exact H.dropL | exact H.drop.dropL | exact H.dropL.drop | exact H.dropL.dropL | exact H.dropMid) (fun w H => Ev.load H rfl (by kernel_rfl) (by first | exact Rd.mk m0 rfl | exact Rd.mk m1 rfl | exact Rd.mk m2 rfl | exact Rd.mk m3 rfl | assumption)) rfl ?_ | refine OpsD.takeNo 27 rfl (by kernel_rfl) rfl rfl (by first | exact H | exact H.drop | exact H.drop.drop | exact H.dropL | exact H.drop.dropL | exact H.dropL.drop | exact H.dropL.dropL | exact H.dropMid) rfl ?_ | refine OpsD.takeOff 27 rfl (by kernel_rfl) rfl rfl (by first | exact H | exact H.drop | exact H.drop.drop | exact H.dropL | exact H.drop.dropL | exact H.dropL.drop | exact H.dropL.dropL | exact H.dropMid) rfl ?_
      first | refine OpsD.takeYes 28 rfl (by kernel_rfl) rfl rfl (by first | exact H | exact H.drop | exact H.drop.drop | exact H.dropL | exact H.drop.dropL | exact H.dropL.drop | exact H.dropL.dropL | exact H.dropMid) (fun w H => Ev.iaSl (n := 58) (sz := 3) (m := 0) rfl rfl rfl (by kernel_rfl) (by omega)) rfl ?_ | refine OpsD.takeNo 28 rfl (by kernel_rfl) rfl rfl (by first | exact H | exact H.drop | exact H.drop.drop | exact H.dropL | exact H.drop.dropL | exact H.dropL.drop | exact H.dropL.dropL | exact H.dropMid) rfl ?_ | refine OpsD.takeOff 28 rfl (by kernel_rfl) rfl rfl (by first | exact H | exact H.drop | exact H.drop.drop | exact H.dropL | exact H.drop.dropL | exact H.dropL.drop | exact H.dropL.dropL | exact H.dropMid) rfl ?_
      first | refine OpsD.takeYes 29 rfl (by kernel_rfl) rfl rfl (by first | exact H | exact H.drop | exact H.drop.drop | exact H.dropL | exact H.drop.dropL | exact H.dropL.drop | exact H.dropL.dropL | exact H.dropMid) (fun w H => Ev.fieldAddr (o := 1) rfl (by kernel_rfl)) rfl ?_ | refine OpsD.takeNo 29 rfl (by kernel_rfl) rfl rfl (by first | exact H | exact H.drop | exact H.drop.drop | exact H.dropL | exact H.drop.dropL | exact H.dropL.drop | exact H.dropL.dropL | exact H.dropMid) rfl ?_ | refine OpsD.takeOff 29 rfl (by kernel_rfl) rfl rfl (by first | exact H | exact H.drop | exact H.drop.drop | exact H.dropL | exact H.drop.dropL | exact H.dropL.drop | exact H.dropL.dropL | exact H.dropMid) rfl ?_
      first | refine OpsD.takeYes 30 rfl (by kernel_rfl) rfl rfl (by first | exact H | exact H.drop | exact H.drop.drop | exact H.dropL | exact H.drop.dropL | exact H.dropL.drop | exact H.dropL.dropL | exact H.dropMid) (fun w H => Ev.load H rfl (by kernel_rfl) (by first | exact Rd.mk m0 rfl | exact Rd.mk m1 rfl | exact Rd.mk m2 rfl | exact Rd.mk m3 rfl | assumption)) rfl ?_ | refine OpsD.takeNo 30 rfl (by kernel_rfl) rfl rfl (by first | exact H | exact H.drop | exact H.drop.drop | exact H.dropL | exact H.drop.dropL | exact H.dropL.drop | exact H.dropL.dropL | exact H.dropMid) rfl ?_ | refine OpsD.takeOff 30 rfl (by kernel_rfl) rfl rfl (by first | exact H | exact H.drop | exact H.drop.drop | exact H.dropL | exact H.drop.dropL | exact H.dropL.drop | exact H.dropL.dropL | exact H.dropMid) rfl ?_
      first | refine OpsD.takeYes 31 rfl (by kernel_rfl) rfl rfl (by first | exact H | exact H.drop | exact H.drop.drop | exact H.dropL | exact H.drop.dropL | exact H.dropL.drop | exact H.dropL.dropL | exact H.dropMid) (fun w H => Ev.neq rfl rfl) rfl ?_ | refine OpsD.takeNo 31 rfl (by kernel_rfl) rfl rfl (by first | exact H | exact H.drop | exact H.drop.drop | exact H.dropL | exact H.drop.dropL | exact H.dropL.drop | exact H.dropL.dropL | exact H.dropMid) rfl ?_ | refine OpsD.takeOff 31 rfl (by kernel_rfl) rfl rfl (by first | exact H | exact H.drop | exact H.drop.drop | exact H.dropL | exact H.drop.dropL | exact H.dropL.drop | exact H.dropL.dropL | exact H.dropMid) rfl ?_
      first | refine OpsD.takeYes 32 rfl (by kernel_rfl) rfl rfl (by first | exact H | exact H.drop | exact H.drop.drop | exact H.dropL | exact H.drop.dropL | exact H.dropL.drop | exact H.dropL.dropL | exact H.dropMid) (fun w H => (by first | exact Ev.pickT rfl rfl | exact Ev.pickF rfl rfl)) rfl ?_ | refine OpsD.takeNo 32 rfl (by kernel_rfl) rfl rfl (by first | exact H | exact H.drop | exact H.drop.drop | exact H.dropL | exact H.drop.dropL | exact H.dropL.drop | exact H.dropL.dropL | exact H.dropMid) rfl ?_ | refine OpsD.takeOff 32 rfl (by kernel_rfl) rfl rfl (by first | exact H | exact H.drop | exact H.drop.drop | exact H.dropL | exact H.drop.dropL | exact H.dropL.drop | exact H.dropL.dropL | exact H.dropMid) rfl ?_
      refine OpsD.take 33 rfl (by kernel_rfl) (by first | exact H | exact H.drop | exact H.drop.drop | exact H.dropL | exact H.drop.dropL | exact H.dropL.drop | exact H.dropL.dropL | exact H.dropMid) (fun w H => (by first | exact Ev.pickT rfl rfl | exact Ev.pickF rfl rfl)) rfl ?_
      refine OpsD.take 34 rfl (by kernel_rfl) (by first | exact H | exact H.drop | exact H.drop.drop | exact H.dropL | exact H.drop.dropL | exact H.dropL.drop | exact H.dropL.dropL | exact H.dropMid) (fun w H => Ev.move rfl) rfl ?_
      first | refine OpsD.takeYes 35 rfl (by kernel_rfl) rfl rfl (by first | exact H | exact H.drop | exact H.drop.drop | exact H.dropL | exact H.drop.dropL | exact H.dropL.drop | exact H.dropL.dropL | exact H.dropMid) (fun w H => Ev.move rfl) rfl ?_ | refine OpsD.takeNo 35 rfl (by kernel_rfl) rfl rfl (by first | exact H | exact H.drop | exact H.drop.drop | exact H.dropL | exact H.drop.dropL | exact H.dropL.drop | exact H.dropL.dropL | exact H.dropMid) rfl ?_ | refine OpsD.takeOff 35 rfl (by kernel_rfl) rfl rfl (by first | exact H | exact H.drop | exact H.drop.drop | exact H.dropL | exact H.drop.dropL | exact H.dropL.drop | exact H.dropL.dropL | exact H.dropMid) rfl ?_
      first | refine OpsD.takeYes 36 rfl (by kernel_rfl) rfl rfl (by first | exact H | exact H.drop | exact H.drop.drop | exact H.dropL | exact H.drop.dropL | exact H.dropL.drop | exact H.dropL.dropL | exact H.dropMid) (fun w H => Ev.not rfl) rfl ?_ | refine OpsD.takeNo 36 rfl (by kernel_rfl) rfl rfl (by first | exact H | exact H.drop | exact H.drop.drop | exact H.dropL | exact H.drop.dropL | exact H.dropL.drop | exact H.dropL.dropL | exact H.dropMid) rfl ?_ | refine OpsD.takeOff 36 rfl (by kernel_rfl) rfl rfl (by first | exact H | exact H.drop | exact H.drop.drop | exact H.dropL | exact H.drop.dropL | exact H.dropL.drop | exact H.dropL.dropL | exact H.dropMid) rfl ?_
      first | refine OpsD.takeYes 37 rfl (by kernel_rfl) rfl rfl (by first | exact H | exact H.drop | exact H.drop.drop | exact H.dropL | exact H.drop.dropL | exact H.dropL.drop | exact H.dropL.dropL | exact H.dropMid) (fun w H => Ev.move rfl) rfl ?_ | refine OpsD.takeNo 37 rfl (by kernel_rfl) rfl rfl (by first | exact H | exact H.drop | exact H.drop.drop | exact H.dropL | exact H.drop.dropL | exact H.dropL.drop | exact H.dropL.dropL | exact H.dropMid) rfl ?_ | refine OpsD.takeOff 37 rfl (by kernel_rfl) rfl rfl (by first | exact H | exact H.drop | exact H.drop.drop | exact H.dropL | exact H.drop.dropL | exact H.dropL.drop | exact H.dropL.dropL | exact H.dropMid) rfl ?_
      first | refine OpsD.takeYes 38 rfl (by kernel_rfl) rfl rfl (by first | exact H | exact H.drop | exact H.drop.drop | exact H.dropL | exact H.drop.dropL | exact H.dropL.drop | exact H.dropL.dropL | exact H.dropMid) (fun w H => Ev.move rfl) rfl ?_ | refine OpsD.takeNo 38 rfl (by kernel_rfl) rfl rfl (by first | exact H | exact H.drop | exact H.drop.drop | exact H.dropL | exact H.drop.dropL | exact H.dropL.drop | exact H.dropL.dropL | exact H.dropMid) rfl ?_ | refine OpsD.takeOff 38 rfl (by kernel_rfl) rfl rfl (by first | exact H | exact H.drop | exact H.drop.drop | exact H.dropL | exact H.drop.dropL | exact H.dropL.drop | exact H.dropL.dropL | exact H.dropMid) rfl ?_
      first | refine OpsD.takeYes 39 rfl (by kernel_rfl) rfl rfl (by first | exact H | exact H.drop | exact H.drop.drop | exact H.dropL | exact H.drop.dropL | exact H.dropL.drop | exact H.dropL.dropL | exact H.dropMid) (fun w H => Ev.neq (r := false) rfl rfl rfl) rfl ?_ | refine OpsD.takeNo 39 rfl (by kernel_rfl) rfl rfl (by first | exact H | exact H.drop | exact H.drop.drop | exact H.dropL | exact H.drop.dropL | exact H.dropL.drop | exact H.dropL.dropL | exact H.dropMid) rfl ?_ | refine OpsD.takeOff 39 rfl (by kernel_rfl) rfl rfl (by first | exact H | exact H.drop | exact H.drop.drop | exact H.dropL | exact H.drop.dropL | exact H.dropL.drop | exact H.dropL.dropL | exact H.dropMid) rfl ?_
      first | refine OpsD.takeYes 40 rfl (by kernel_rfl) rfl rfl (by first | exact H | exact H.drop | exact H.drop.drop | exact H.dropL | exact H.drop.dropL | exact H.dropL.drop | exact H.dropL.dropL | exact H.dropMid) (fun w H => (by first | exact Ev.pickT rfl rfl | exact Ev.pickF rfl rfl)) rfl ?_ | refine OpsD.takeNo 40 rfl (by kernel_rfl) rfl rfl (by first | exact H | exact H.drop | exact H.drop.drop | exact H.dropL | exact H.drop.dropL | exact H.dropL.drop | exact H.dropL.dropL | exact H.dropMid) rfl ?_ | refine OpsD.takeOff 40 rfl (by kernel_rfl) rfl rfl (by first | exact H | exact H.drop | exact H.drop.drop | exact H.dropL | exact H.drop.dropL | exact H.dropL.drop | exact H.dropL.dropL | exact H.dropMid) rfl ?_
      refine OpsD.take 41 rfl (by kernel_rfl) (by first | exact H | exact H.drop | exact H.drop.drop | exact H.dropL | exact H.drop.dropL | exact H.dropL.drop | exact H.dropL.dropL | exact H.dropMid) (fun w H => (by first | exact Ev.pickT rfl rfl | exact Ev.pickF rfl rfl)) rfl ?_
      refine OpsD.done (by kernel_rfl) ?_
      repeat (first | refine RunsE.seq ?_ | refine RunsE.skip ?_ | refine RunsE.block ?_ | refine RunsE.inBlock ?_ | refine RunsE.yes rfl ?_ | refine RunsE.no rfl ?_ | refine RunsE.exit rfl ?_)
      repeat (first | refine RunsE.seq ?_ | refine RunsE.skip ?_ | refine RunsE.block ?_ | refine RunsE.inBlock ?_ | refine RunsE.yes rfl ?_ | refine RunsE.no rfl ?_ | refine RunsE.exit rfl ?_)
      refine RunsE.region ?_
      refine OpsE.ev (Ev.move rfl) rfl ?_
      refine OpsE.ev (Ev.add rfl rfl) rfl ?_
      refine OpsE.ev (Ev.assign rfl) rfl ?_
      refine OpsE.nil ?_
      exact nextL (i + 1) _ _ (by omega) ⟨by omega, .of ⟨xs, _, last, x, A, D, hA, hQ, by omega, hR, H.dropL⟩⟩ ⟨rfl, rfl, rfl, rfl, trivial⟩
    · have e0 : decide (0 < L.length) = true := decide_eq_true (by omega)
      have e1 : nDue L = (at' L 0).due := by unfold nDue; rw [if_neg h0]
      rw [e0, e1]
      obtain ⟨bl, ol, hla, hl0⟩ := hR.at (k := 0) (by omega)
      have hdue : ∀ (B : List (Nat × Obj)), (∀ y ∈ D ++ F, y ∈ B) → Rd B ⟨bl, ol + (0 * 3 + 1), none⟩ (.int .i64 ((at' L 0).due : Int)) := fun B hB => (hl0 1 _ rfl).sub hB
      obtain ⟨la, lc⟩ := x
      simp only at hla
      subst hla
      repeat (first | refine RunsE.seq ?_ | refine RunsE.skip ?_ | refine RunsE.block ?_ | refine RunsE.inBlock ?_ | refine RunsE.yes rfl ?_ | refine RunsE.no rfl ?_ | refine RunsE.exit rfl ?_)
      refine RunsE.drawS H [] (by kernel_rfl) ?_; (try clear H); intro w H
      refine OpsD.take 0 rfl (by kernel_rfl) (by first | exact H | exact H.drop | exact H.drop.drop | exact H.dropL | exact H.drop.dropL | exact H.dropL.drop | exact H.dropL.dropL | exact H.dropMid) (fun w H => Ev.move rfl) rfl ?_
      refine OpsD.take 2 rfl (by kernel_rfl) (by first | exact H | exact H.drop | exact H.drop.drop | exact H.dropL | exact H.drop.dropL | exact H.dropL.drop | exact H.dropL.dropL | exact H.dropMid) (fun w H => Ev.fieldAddr (o := 0) rfl (by kernel_rfl)) rfl ?_
      refine OpsD.take 3 rfl (by kernel_rfl) (by first | exact H | exact H.drop | exact H.drop.drop | exact H.dropL | exact H.drop.dropL | exact H.dropL.drop | exact H.dropL.dropL | exact H.dropMid) (fun w H => Ev.load H rfl (by kernel_rfl) (Rd.right (Rd.mk m0 rfl))) rfl ?_
      refine OpsD.one 1 (by kernel_rfl) (StepD.ex rfl (Ex.call rfl Tryd.call11 (events_spec b xs last (by omega) (fun e he => hQ.due e (hQ.perm.subset he)) A w _ hA H)) rfl ?_); (try clear H); rintro _ w ⟨out, B, hs, hp, hso, H⟩; obtain rfl := hev hp hso; obtain ⟨ae, ce, rfl⟩ := hs.len; refine ⟨(by first | exact H | exact H.drop | exact H.drop.drop | exact H.dropL | exact H.drop.dropL | exact H.dropL.drop | exact H.dropL.dropL | exact H.dropMid), ?_⟩
      refine OpsD.one 4 (by kernel_rfl) (StepD.ex rfl (Ex.call rfl Tryd.call10 (evs_spec out _ _ (by omega) w _ (hs.rdS fun _ => rfl) (hR.sub fun p hp => List.mem_append_right _ (List.mem_append_right _ (.tail _ hp))) H)) rfl ?_); (try clear H); rintro _ w ⟨rfl, H⟩; refine ⟨(by first | exact H | exact H.drop | exact H.drop.drop | exact H.dropL | exact H.drop.dropL | exact H.dropL.drop | exact H.dropL.dropL | exact H.dropMid), ?_⟩
      refine OpsD.take 5 rfl (by kernel_rfl) (by first | exact H | exact H.drop | exact H.drop.drop | exact H.dropL | exact H.drop.dropL | exact H.dropL.drop | exact H.dropL.dropL | exact H.dropMid) (fun w H => Ev.not rfl) rfl ?_
      refine OpsD.take 6 rfl (by kernel_rfl) (by first | exact H | exact H.drop | exact H.drop.drop | exact H.dropL | exact H.drop.dropL | exact H.dropL.drop | exact H.dropL.dropL | exact H.dropMid) (fun w H => Ev.move rfl) rfl ?_
      first | refine OpsD.takeYes 7 rfl (by kernel_rfl) rfl rfl (by first | exact H | exact H.drop | exact H.drop.drop | exact H.dropL | exact H.drop.dropL | exact H.dropL.drop | exact H.dropL.dropL | exact H.dropMid) (fun w H => Ev.move rfl) rfl ?_ | refine OpsD.takeNo 7 rfl (by kernel_rfl) rfl rfl (by first | exact H | exact H.drop | exact H.drop.drop | exact H.dropL | exact H.drop.dropL | exact H.dropL.drop | exact H.dropL.dropL | exact H.dropMid) rfl ?_ | refine OpsD.takeOff 7 rfl (by kernel_rfl) rfl rfl (by first | exact H | exact H.drop | exact H.drop.drop | exact H.dropL | exact H.drop.dropL | exact H.dropL.drop | exact H.dropL.dropL | exact H.dropMid) rfl ?_
      first | refine OpsD.takeYes 9 rfl (by kernel_rfl) rfl rfl (by first | exact H | exact H.drop | exact H.drop.drop | exact H.dropL | exact H.drop.dropL | exact H.dropL.drop | exact H.dropL.dropL | exact H.dropMid) (fun w H => Ev.fieldAddr (o := 0) rfl (by kernel_rfl)) rfl ?_ | refine OpsD.takeNo 9 rfl (by kernel_rfl) rfl rfl (by first | exact H | exact H.drop | exact H.drop.drop | exact H.dropL | exact H.drop.dropL | exact H.dropL.drop | exact H.dropL.dropL | exact H.dropMid) rfl ?_ | refine OpsD.takeOff 9 rfl (by kernel_rfl) rfl rfl (by first | exact H | exact H.drop | exact H.drop.drop | exact H.dropL | exact H.drop.dropL | exact H.dropL.drop | exact H.dropL.dropL | exact H.dropMid) rfl ?_
      first | refine OpsD.takeYes 10 rfl (by kernel_rfl) rfl rfl (by first | exact H | exact H.drop | exact H.drop.drop | exact H.dropL | exact H.drop.dropL | exact H.dropL.drop | exact H.dropL.dropL | exact H.dropMid) (fun w H => Ev.load H rfl (by kernel_rfl) (Rd.right (Rd.mk m0 rfl))) rfl ?_ | refine OpsD.takeNo 10 rfl (by kernel_rfl) rfl rfl (by first | exact H | exact H.drop | exact H.drop.drop | exact H.dropL | exact H.drop.dropL | exact H.dropL.drop | exact H.dropL.dropL | exact H.dropMid) rfl ?_ | refine OpsD.takeOff 10 rfl (by kernel_rfl) rfl rfl (by first | exact H | exact H.drop | exact H.drop.drop | exact H.dropL | exact H.drop.dropL | exact H.dropL.drop | exact H.dropL.dropL | exact H.dropMid) rfl ?_
      first | refine OpsD.takeYes 11 rfl (by kernel_rfl) rfl rfl (by first | exact H | exact H.drop | exact H.drop.drop | exact H.dropL | exact H.drop.dropL | exact H.dropL.drop | exact H.dropL.dropL | exact H.dropMid) (fun w H => Ev.lenSl (d := 58) rfl rfl (by kernel_rfl)) rfl ?_ | refine OpsD.takeNo 11 rfl (by kernel_rfl) rfl rfl (by first | exact H | exact H.drop | exact H.drop.drop | exact H.dropL | exact H.drop.dropL | exact H.dropL.drop | exact H.dropL.dropL | exact H.dropMid) rfl ?_ | refine OpsD.takeOff 11 rfl (by kernel_rfl) rfl rfl (by first | exact H | exact H.drop | exact H.drop.drop | exact H.dropL | exact H.drop.dropL | exact H.dropL.drop | exact H.dropL.dropL | exact H.dropMid) rfl ?_
      first | (refine OpsD.one 8 (by kernel_rfl) (StepD.exYes rfl rfl rfl (Ex.call rfl Tryd.call15 (tlen_spec b xs last A w _ hA H.swapL)) rfl ?_); (try clear H); rintro _ w ⟨rfl, H⟩; replace H := H.swapL; refine ⟨(by first | exact H | exact H.drop | exact H.drop.drop | exact H.dropL | exact H.drop.dropL | exact H.dropL.drop | exact H.dropL.dropL | exact H.dropMid), ?_⟩) | refine OpsD.takeNo 8 rfl (by kernel_rfl) rfl rfl (by first | exact H | exact H.drop | exact H.drop.drop | exact H.dropL | exact H.drop.dropL | exact H.dropL.drop | exact H.dropL.dropL | exact H.dropMid) rfl ?_ | refine OpsD.takeOff 8 rfl (by kernel_rfl) rfl rfl (by first | exact H | exact H.drop | exact H.drop.drop | exact H.dropL | exact H.drop.dropL | exact H.dropL.drop | exact H.dropL.dropL | exact H.dropMid) rfl ?_
      first | refine OpsD.takeYes 12 rfl (by kernel_rfl) rfl rfl (by first | exact H | exact H.drop | exact H.drop.drop | exact H.dropL | exact H.drop.dropL | exact H.dropL.drop | exact H.dropL.dropL | exact H.dropMid) (fun w H => Ev.neq (r := false) rfl rfl (bne_eq_false_iff_eq.2 (by omega))) rfl ?_ | refine OpsD.takeNo 12 rfl (by kernel_rfl) rfl rfl (by first | exact H | exact H.drop | exact H.drop.drop | exact H.dropL | exact H.drop.dropL | exact H.dropL.drop | exact H.dropL.dropL | exact H.dropMid) rfl ?_ | refine OpsD.takeOff 12 rfl (by kernel_rfl) rfl rfl (by first | exact H | exact H.drop | exact H.drop.drop | exact H.dropL | exact H.drop.dropL | exact H.dropL.drop | exact H.dropL.dropL | exact H.dropMid) rfl ?_
      refine OpsD.take 13 rfl (by kernel_rfl) (by first | exact H | exact H.drop | exact H.drop.drop | exact H.dropL | exact H.drop.dropL | exact H.dropL.drop | exact H.dropL.dropL | exact H.dropMid) (fun w H => (by first | exact Ev.pickT rfl rfl | exact Ev.pickF rfl rfl)) rfl ?_
      refine OpsD.take 14 rfl (by kernel_rfl) (by first | exact H | exact H.drop | exact H.drop.drop | exact H.dropL | exact H.drop.dropL | exact H.dropL.drop | exact H.dropL.dropL | exact H.dropMid) (fun w H => Ev.move rfl) rfl ?_
      first | refine OpsD.takeYes 15 rfl (by kernel_rfl) rfl rfl (by first | exact H | exact H.drop | exact H.drop.drop | exact H.dropL | exact H.drop.dropL | exact H.dropL.drop | exact H.dropL.dropL | exact H.dropMid) (fun w H => Ev.move rfl) rfl ?_ | refine OpsD.takeNo 15 rfl (by kernel_rfl) rfl rfl (by first | exact H | exact H.drop | exact H.drop.drop | exact H.dropL | exact H.drop.dropL | exact H.dropL.drop | exact H.dropL.dropL | exact H.dropMid) rfl ?_ | refine OpsD.takeOff 15 rfl (by kernel_rfl) rfl rfl (by first | exact H | exact H.drop | exact H.drop.drop | exact H.dropL | exact H.drop.dropL | exact H.dropL.drop | exact H.dropL.dropL | exact H.dropMid) rfl ?_
      first | refine OpsD.takeYes 16 rfl (by kernel_rfl) rfl rfl (by first | exact H | exact H.drop | exact H.drop.drop | exact H.dropL | exact H.drop.dropL | exact H.dropL.drop | exact H.dropL.dropL | exact H.dropMid) (fun w H => Ev.fieldAddr (o := 0) rfl (by kernel_rfl)) rfl ?_ | refine OpsD.takeNo 16 rfl (by kernel_rfl) rfl rfl (by first | exact H | exact H.drop | exact H.drop.drop | exact H.dropL | exact H.drop.dropL | exact H.dropL.drop | exact H.dropL.dropL | exact H.dropMid) rfl ?_ | refine OpsD.takeOff 16 rfl (by kernel_rfl) rfl rfl (by first | exact H | exact H.drop | exact H.drop.drop | exact H.dropL | exact H.drop.dropL | exact H.dropL.drop | exact H.dropL.dropL | exact H.dropMid) rfl ?_
      first | refine OpsD.takeYes 17 rfl (by kernel_rfl) rfl rfl (by first | exact H | exact H.drop | exact H.drop.drop | exact H.dropL | exact H.drop.dropL | exact H.dropL.drop | exact H.dropL.dropL | exact H.dropMid) (fun w H => Ev.load H rfl (by kernel_rfl) (Rd.right (Rd.mk m0 rfl))) rfl ?_ | refine OpsD.takeNo 17 rfl (by kernel_rfl) rfl rfl (by first | exact H | exact H.drop | exact H.drop.drop | exact H.dropL | exact H.drop.dropL | exact H.dropL.drop | exact H.dropL.dropL | exact H.dropMid) rfl ?_ | refine OpsD.takeOff 17 rfl (by kernel_rfl) rfl rfl (by first | exact H | exact H.drop | exact H.drop.drop | exact H.dropL | exact H.drop.dropL | exact H.dropL.drop | exact H.dropL.dropL | exact H.dropMid) rfl ?_
      first | refine OpsD.takeYes 18 rfl (by kernel_rfl) rfl rfl (by first | exact H | exact H.drop | exact H.drop.drop | exact H.dropL | exact H.drop.dropL | exact H.dropL.drop | exact H.dropL.dropL | exact H.dropMid) (fun w H => Ev.lenSl (d := 58) rfl rfl (by kernel_rfl)) rfl ?_ | refine OpsD.takeNo 18 rfl (by kernel_rfl) rfl rfl (by first | exact H | exact H.drop | exact H.drop.drop | exact H.dropL | exact H.drop.dropL | exact H.dropL.drop | exact H.dropL.dropL | exact H.dropMid) rfl ?_ | refine OpsD.takeOff 18 rfl (by kernel_rfl) rfl rfl (by first | exact H | exact H.drop | exact H.drop.drop | exact H.dropL | exact H.drop.dropL | exact H.dropL.drop | exact H.dropL.dropL | exact H.dropMid) rfl ?_
      first | refine OpsD.takeYes 19 rfl (by kernel_rfl) rfl rfl (by first | exact H | exact H.drop | exact H.drop.drop | exact H.dropL | exact H.drop.dropL | exact H.dropL.drop | exact H.dropL.dropL | exact H.dropMid) (fun w H => Ev.gtr (r := true) rfl rfl (decide_eq_true (by omega))) rfl ?_ | refine OpsD.takeNo 19 rfl (by kernel_rfl) rfl rfl (by first | exact H | exact H.drop | exact H.drop.drop | exact H.dropL | exact H.drop.dropL | exact H.dropL.drop | exact H.dropL.dropL | exact H.dropMid) rfl ?_ | refine OpsD.takeOff 19 rfl (by kernel_rfl) rfl rfl (by first | exact H | exact H.drop | exact H.drop.drop | exact H.dropL | exact H.drop.dropL | exact H.dropL.drop | exact H.dropL.dropL | exact H.dropMid) rfl ?_
      first | refine OpsD.takeYes 20 rfl (by kernel_rfl) rfl rfl (by first | exact H | exact H.drop | exact H.drop.drop | exact H.dropL | exact H.drop.dropL | exact H.dropL.drop | exact H.dropL.dropL | exact H.dropMid) (fun w H => Ev.boolNe (r := false) rfl rfl Tryd.underlying4) rfl ?_ | refine OpsD.takeNo 20 rfl (by kernel_rfl) rfl rfl (by first | exact H | exact H.drop | exact H.drop.drop | exact H.dropL | exact H.drop.dropL | exact H.dropL.drop | exact H.dropL.dropL | exact H.dropMid) rfl ?_ | refine OpsD.takeOff 20 rfl (by kernel_rfl) rfl rfl (by first | exact H | exact H.drop | exact H.drop.drop | exact H.dropL | exact H.drop.dropL | exact H.dropL.drop | exact H.dropL.dropL | exact H.dropMid) rfl ?_
      refine OpsD.take 21 rfl (by kernel_rfl) (by first | exact H | exact H.drop | exact H.drop.drop | exact H.dropL | exact H.drop.dropL | exact H.dropL.drop | exact H.dropL.dropL | exact H.dropMid) (fun w H => (by first | exact Ev.pickT rfl rfl | exact Ev.pickF rfl rfl)) rfl ?_
      refine OpsD.take 22 rfl (by kernel_rfl) (by first | exact H | exact H.drop | exact H.drop.drop | exact H.dropL | exact H.drop.dropL | exact H.dropL.drop | exact H.dropL.dropL | exact H.dropMid) (fun w H => Ev.move rfl) rfl ?_
      first | refine OpsD.takeYes 23 rfl (by kernel_rfl) rfl rfl (by first | exact H | exact H.drop | exact H.drop.drop | exact H.dropL | exact H.drop.dropL | exact H.dropL.drop | exact H.dropL.dropL | exact H.dropMid) (fun w H => Ev.move rfl) rfl ?_ | refine OpsD.takeNo 23 rfl (by kernel_rfl) rfl rfl (by first | exact H | exact H.drop | exact H.drop.drop | exact H.dropL | exact H.drop.dropL | exact H.dropL.drop | exact H.dropL.dropL | exact H.dropMid) rfl ?_ | refine OpsD.takeOff 23 rfl (by kernel_rfl) rfl rfl (by first | exact H | exact H.drop | exact H.drop.drop | exact H.dropL | exact H.drop.dropL | exact H.dropL.drop | exact H.dropL.dropL | exact H.dropMid) rfl ?_
      first | refine OpsD.takeYes 24 rfl (by kernel_rfl) rfl rfl (by first | exact H | exact H.drop | exact H.drop.drop | exact H.dropL | exact H.drop.dropL | exact H.dropL.drop | exact H.dropL.dropL | exact H.dropMid) (fun w H => Ev.move rfl) rfl ?_ | refine OpsD.takeNo 24 rfl (by kernel_rfl) rfl rfl (by first | exact H | exact H.drop | exact H.drop.drop | exact H.dropL | exact H.drop.dropL | exact H.dropL.drop | exact H.dropL.dropL | exact H.dropMid) rfl ?_ | refine OpsD.takeOff 24 rfl (by kernel_rfl) rfl rfl (by first | exact H | exact H.drop | exact H.drop.drop | exact H.dropL | exact H.drop.dropL | exact H.dropL.drop | exact H.dropL.dropL | exact H.dropMid) rfl ?_
      first | refine OpsD.takeYes 25 rfl (by kernel_rfl) rfl rfl (by first | exact H | exact H.drop | exact H.drop.drop | exact H.dropL | exact H.drop.dropL | exact H.dropL.drop | exact H.dropL.dropL | exact H.dropMid) (fun w H => Ev.move rfl) rfl ?_ | refine OpsD.takeNo 25 rfl (by kernel_rfl) rfl rfl (by first | exact H | exact H.drop | exact H.drop.drop | exact H.dropL | exact H.drop.dropL | exact H.dropL.drop | exact H.dropL.dropL | exact H.dropMid) rfl ?_ | refine OpsD.takeOff 25 rfl (by kernel_rfl) rfl rfl (by first | exact H | exact H.drop | exact H.drop.drop | exact H.dropL | exact H.drop.dropL | exact H.dropL.drop | exact H.dropL.dropL | exact H.dropMid) rfl ?_
      first | refine OpsD.takeYes 26 rfl (by kernel_rfl) rfl rfl (by first | exact H | exact H.drop | exact H.drop.drop | exact H.dropL | exact H.drop.dropL | exact H.dropL.drop | exact H.dropL.dropL | exact H.dropMid) (fun w H => Ev.fieldAddr (o := 0) rfl (by kernel_rfl)) rfl ?_ | refine OpsD.takeNo 26 rfl (by kernel_rfl) rfl rfl (by first | exact H | exact H.drop | exact H.drop.drop | exact H.dropL | exact H.drop.dropL | exact H.dropL.drop | exact H.dropL.dropL | exact H.dropMid) rfl ?_ | refine OpsD.takeOff 26 rfl (by kernel_rfl) rfl rfl (by first | exact H | exact H.drop | exact H.drop.drop | exact H.dropL | exact H.drop.dropL | exact H.dropL.drop | exact H.dropL.dropL | exact H.dropMid) rfl ?_
      first | refine OpsD.takeYes 27 rfl (by kernel_rfl) rfl rfl (by first | exact H | exact H.drop | exact H.drop.drop | exact H.dropL | exact H.drop.dropL | exact H.dropL.drop | exact H.dropL.dropL | exact H.dropMid) (fun w H => Ev.load H rfl (by kernel_rfl) (Rd.right (Rd.mk m0 rfl))) rfl ?_ | refine OpsD.takeNo 27 rfl (by kernel_rfl) rfl rfl (by first | exact H | exact H.drop | exact H.drop.drop | exact H.dropL | exact H.drop.dropL | exact H.dropL.drop | exact H.dropL.dropL | exact H.dropMid) rfl ?_ | refine OpsD.takeOff 27 rfl (by kernel_rfl) rfl rfl (by first | exact H | exact H.drop | exact H.drop.drop | exact H.dropL | exact H.drop.dropL | exact H.dropL.drop | exact H.dropL.dropL | exact H.dropMid) rfl ?_
      first | refine OpsD.takeYes 28 rfl (by kernel_rfl) rfl rfl (by first | exact H | exact H.drop | exact H.drop.drop | exact H.dropL | exact H.drop.dropL | exact H.dropL.drop | exact H.dropL.dropL | exact H.dropMid) (fun w H => Ev.iaSl (n := 58) (sz := 3) (m := 0) (o := ol + 0) rfl rfl rfl (by kernel_rfl) (by omega)) rfl ?_ | refine OpsD.takeNo 28 rfl (by kernel_rfl) rfl rfl (by first | exact H | exact H.drop | exact H.drop.drop | exact H.dropL | exact H.drop.dropL | exact H.dropL.drop | exact H.dropL.dropL | exact H.dropMid) rfl ?_ | refine OpsD.takeOff 28 rfl (by kernel_rfl) rfl rfl (by first | exact H | exact H.drop | exact H.drop.drop | exact H.dropL | exact H.drop.dropL | exact H.dropL.drop | exact H.dropL.dropL | exact H.dropMid) rfl ?_
      first | refine OpsD.takeYes 29 rfl (by kernel_rfl) rfl rfl (by first | exact H | exact H.drop | exact H.drop.drop | exact H.dropL | exact H.drop.dropL | exact H.dropL.drop | exact H.dropL.dropL | exact H.dropMid) (fun w H => Ev.fieldAddr (o := 1) rfl (by kernel_rfl)) rfl ?_ | refine OpsD.takeNo 29 rfl (by kernel_rfl) rfl rfl (by first | exact H | exact H.drop | exact H.drop.drop | exact H.dropL | exact H.drop.dropL | exact H.dropL.drop | exact H.dropL.dropL | exact H.dropMid) rfl ?_ | refine OpsD.takeOff 29 rfl (by kernel_rfl) rfl rfl (by first | exact H | exact H.drop | exact H.drop.drop | exact H.dropL | exact H.drop.dropL | exact H.dropL.drop | exact H.dropL.dropL | exact H.dropMid) rfl ?_
      first | refine OpsD.takeYes 30 rfl (by kernel_rfl) rfl rfl (by first | exact H | exact H.drop | exact H.drop.drop | exact H.dropL | exact H.drop.dropL | exact H.dropL.drop | exact H.dropL.dropL | exact H.dropMid) (fun w H => Ev.load H rfl (by kernel_rfl) (hdue _ fun y hy => List.mem_append_right _ (.tail _ hy))) rfl ?_ | refine OpsD.takeNo 30 rfl (by kernel_rfl) rfl rfl (by first | exact H | exact H.drop | exact H.drop.drop | exact H.dropL | exact H.drop.dropL | exact H.dropL.drop | exact H.dropL.dropL | exact H.dropMid) rfl ?_ | refine OpsD.takeOff 30 rfl (by kernel_rfl) rfl rfl (by first | exact H | exact H.drop | exact H.drop.drop | exact H.dropL | exact H.drop.dropL | exact H.dropL.drop | exact H.dropL.dropL | exact H.dropMid) rfl ?_
      first | refine OpsD.takeYes 31 rfl (by kernel_rfl) rfl rfl (by first | exact H | exact H.drop | exact H.drop.drop | exact H.dropL | exact H.drop.dropL | exact H.dropL.drop | exact H.dropL.dropL | exact H.dropMid) (fun w H => Ev.neq (r := false) rfl rfl (bne_eq_false_iff_eq.2 rfl)) rfl ?_ | refine OpsD.takeNo 31 rfl (by kernel_rfl) rfl rfl (by first | exact H | exact H.drop | exact H.drop.drop | exact H.dropL | exact H.drop.dropL | exact H.dropL.drop | exact H.dropL.dropL | exact H.dropMid) rfl ?_ | refine OpsD.takeOff 31 rfl (by kernel_rfl) rfl rfl (by first | exact H | exact H.drop | exact H.drop.drop | exact H.dropL | exact H.drop.dropL | exact H.dropL.drop | exact H.dropL.dropL | exact H.dropMid) rfl ?_
      first | refine OpsD.takeYes 32 rfl (by kernel_rfl) rfl rfl (by first | exact H | exact H.drop | exact H.drop.drop | exact H.dropL | exact H.drop.dropL | exact H.dropL.drop | exact H.dropL.dropL | exact H.dropMid) (fun w H => (by first | exact Ev.pickT rfl rfl | exact Ev.pickF rfl rfl)) rfl ?_ | refine OpsD.takeNo 32 rfl (by kernel_rfl) rfl rfl (by first | exact H | exact H.drop | exact H.drop.drop | exact H.dropL | exact H.drop.dropL | exact H.dropL.drop | exact H.dropL.dropL | exact H.dropMid) rfl ?_ | refine OpsD.takeOff 32 rfl (by kernel_rfl) rfl rfl (by first | exact H | exact H.drop | exact H.drop.drop | exact H.dropL | exact H.drop.dropL | exact H.dropL.drop | exact H.dropL.dropL | exact H.dropMid) rfl ?_
      refine OpsD.take 33 rfl (by kernel_rfl) (by first | exact H | exact H.drop | exact H.drop.drop | exact H.dropL | exact H.drop.dropL | exact H.dropL.drop | exact H.dropL.dropL | exact H.dropMid) (fun w H => (by first | exact Ev.pickT rfl rfl | exact Ev.pickF rfl rfl)) rfl ?_
      refine OpsD.take 34 rfl (by kernel_rfl) (by first | exact H | exact H.drop | exact H.drop.drop | exact H.dropL | exact H.drop.dropL | exact H.dropL.drop | exact H.dropL.dropL | exact H.dropMid) (fun w H => Ev.move rfl) rfl ?_
      first | refine OpsD.takeYes 35 rfl (by kernel_rfl) rfl rfl (by first | exact H | exact H.drop | exact H.drop.drop | exact H.dropL | exact H.drop.dropL | exact H.dropL.drop | exact H.dropL.dropL | exact H.dropMid) (fun w H => Ev.move rfl) rfl ?_ | refine OpsD.takeNo 35 rfl (by kernel_rfl) rfl rfl (by first | exact H | exact H.drop | exact H.drop.drop | exact H.dropL | exact H.drop.dropL | exact H.dropL.drop | exact H.dropL.dropL | exact H.dropMid) rfl ?_ | refine OpsD.takeOff 35 rfl (by kernel_rfl) rfl rfl (by first | exact H | exact H.drop | exact H.drop.drop | exact H.dropL | exact H.drop.dropL | exact H.dropL.drop | exact H.dropL.dropL | exact H.dropMid) rfl ?_
      first | refine OpsD.takeYes 36 rfl (by kernel_rfl) rfl rfl (by first | exact H | exact H.drop | exact H.drop.drop | exact H.dropL | exact H.drop.dropL | exact H.dropL.drop | exact H.dropL.dropL | exact H.dropMid) (fun w H => Ev.not rfl) rfl ?_ | refine OpsD.takeNo 36 rfl (by kernel_rfl) rfl rfl (by first | exact H | exact H.drop | exact H.drop.drop | exact H.dropL | exact H.drop.dropL | exact H.dropL.drop | exact H.dropL.dropL | exact H.dropMid) rfl ?_ | refine OpsD.takeOff 36 rfl (by kernel_rfl) rfl rfl (by first | exact H | exact H.drop | exact H.drop.drop | exact H.dropL | exact H.drop.dropL | exact H.dropL.drop | exact H.dropL.dropL | exact H.dropMid) rfl ?_
      first | refine OpsD.takeYes 37 rfl (by kernel_rfl) rfl rfl (by first | exact H | exact H.drop | exact H.drop.drop | exact H.dropL | exact H.drop.dropL | exact H.dropL.drop | exact H.dropL.dropL | exact H.dropMid) (fun w H => Ev.move rfl) rfl ?_ | refine OpsD.takeNo 37 rfl (by kernel_rfl) rfl rfl (by first | exact H | exact H.drop | exact H.drop.drop | exact H.dropL | exact H.drop.dropL | exact H.dropL.drop | exact H.dropL.dropL | exact H.dropMid) rfl ?_ | refine OpsD.takeOff 37 rfl (by kernel_rfl) rfl rfl (by first | exact H | exact H.drop | exact H.drop.drop | exact H.dropL | exact H.drop.dropL | exact H.dropL.drop | exact H.dropL.dropL | exact H.dropMid) rfl ?_
      first | refine OpsD.takeYes 38 rfl (by kernel_rfl) rfl rfl (by first | exact H | exact H.drop | exact H.drop.drop | exact H.dropL | exact H.drop.dropL | exact H.dropL.drop | exact H.dropL.dropL | exact H.dropMid) (fun w H => Ev.move rfl) rfl ?_ | refine OpsD.takeNo 38 rfl (by kernel_rfl) rfl rfl (by first | exact H | exact H.drop | exact H.drop.drop | exact H.dropL | exact H.drop.dropL | exact H.dropL.drop | exact H.dropL.dropL | exact H.dropMid) rfl ?_ | refine OpsD.takeOff 38 rfl (by kernel_rfl) rfl rfl (by first | exact H | exact H.drop | exact H.drop.drop | exact H.dropL | exact H.drop.dropL | exact H.dropL.drop | exact H.dropL.dropL | exact H.dropMid) rfl ?_
      first | refine OpsD.takeYes 39 rfl (by kernel_rfl) rfl rfl (by first | exact H | exact H.drop | exact H.drop.drop | exact H.dropL | exact H.drop.dropL | exact H.dropL.drop | exact H.dropL.dropL | exact H.dropMid) (fun w H => Ev.neq (r := false) rfl rfl rfl) rfl ?_ | refine OpsD.takeNo 39 rfl (by kernel_rfl) rfl rfl (by first | exact H | exact H.drop | exact H.drop.drop | exact H.dropL | exact H.drop.dropL | exact H.dropL.drop | exact H.dropL.dropL | exact H.dropMid) rfl ?_ | refine OpsD.takeOff 39 rfl (by kernel_rfl) rfl rfl (by first | exact H | exact H.drop | exact H.drop.drop | exact H.dropL | exact H.drop.dropL | exact H.dropL.drop | exact H.dropL.dropL | exact H.dropMid) rfl ?_
      first | refine OpsD.takeYes 40 rfl (by kernel_rfl) rfl rfl (by first | exact H | exact H.drop | exact H.drop.drop | exact H.dropL | exact H.drop.dropL | exact H.dropL.drop | exact H.dropL.dropL | exact H.dropMid) (fun w H => (by first | exact Ev.pickT rfl rfl | exact Ev.pickF rfl rfl)) rfl ?_ | refine OpsD.takeNo 40 rfl (by kernel_rfl) rfl rfl (by first | exact H | exact H.drop | exact H.drop.drop | exact H.dropL | exact H.drop.dropL | exact H.dropL.drop | exact H.dropL.dropL | exact H.dropMid) rfl ?_ | refine OpsD.takeOff 40 rfl (by kernel_rfl) rfl rfl (by first | exact H | exact H.drop | exact H.drop.drop | exact H.dropL | exact H.drop.dropL | exact H.dropL.drop | exact H.dropL.dropL | exact H.dropMid) rfl ?_
      refine OpsD.take 41 rfl (by kernel_rfl) (by first | exact H | exact H.drop | exact H.drop.drop | exact H.dropL | exact H.drop.dropL | exact H.dropL.drop | exact H.dropL.dropL | exact H.dropMid) (fun w H => (by first | exact Ev.pickT rfl rfl | exact Ev.pickF rfl rfl)) rfl ?_
      refine OpsD.done (by kernel_rfl) ?_
      repeat (first | refine RunsE.seq ?_ | refine RunsE.skip ?_ | refine RunsE.block ?_ | refine RunsE.inBlock ?_ | refine RunsE.yes rfl ?_ | refine RunsE.no rfl ?_ | refine RunsE.exit rfl ?_)
      repeat (first | refine RunsE.seq ?_ | refine RunsE.skip ?_ | refine RunsE.block ?_ | refine RunsE.inBlock ?_ | refine RunsE.yes rfl ?_ | refine RunsE.no rfl ?_ | refine RunsE.exit rfl ?_)
      refine RunsE.region ?_
      refine OpsE.ev (Ev.move rfl) rfl ?_
      refine OpsE.ev (Ev.add rfl rfl) rfl ?_
      refine OpsE.ev (Ev.assign rfl) rfl ?_
      refine OpsE.nil ?_
      exact nextL (i + 1) _ _ (by omega) ⟨by omega, .of ⟨xs, _, last, _, A, D, hA, hQ, by omega, hR, H.dropL⟩⟩ ⟨rfl, rfl, rfl, rfl, trivial⟩
  clear HP
  rintro _ w ⟨G, H⟩
  repeat (first | refine RunsE.seq ?_ | refine RunsE.skip ?_ | refine RunsE.block ?_ | refine RunsE.inBlock ?_ | refine RunsE.yes rfl ?_ | refine RunsE.no rfl ?_ | refine RunsE.exit rfl ?_)
  refine RunsE.region ?_
  refine OpsE.ex (Ex.call rfl Tryd.call12 (sure_spec w _ H)) rfl ?_; (try clear H); rintro _ w ⟨rfl, H⟩
  refine OpsE.ev (Ev.assign rfl) rfl ?_
  refine OpsE.nil ?_
  repeat (first | refine RunsE.seq ?_ | refine RunsE.skip ?_ | refine RunsE.block ?_ | refine RunsE.inBlock ?_ | refine RunsE.yes rfl ?_ | refine RunsE.no rfl ?_ | refine RunsE.exit rfl ?_)
  exact RunsE.ret1 Tryd.func5 rfl rfl ⟨rfl, H.dropL⟩

end Go.Proofs.YtgeocehgobcdjaaDoor
