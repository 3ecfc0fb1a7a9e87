/-
  The statement 'PagesStay': its function, walked.
-/
import Derived.Test.YtoiehgiokfnmkaaPagesActs
namespace Go.Proofs.Ytoiehgiokfnmkaa.V

/-- A store that is neither armed nor down: what Write does there. -/
structure StCalm (s : St) (n k : Nat) : Prop where
  pages : s.P.length = n
  armed : s.armed = false
  down : s.down = false
  queue : s.Q.length ≤ k

theorem StCalm.write {s : St} {n k : Nat} (h : StCalm s n k) (page : Int) (bs : List UInt8) :
    (((s.write page bs).1 = s ∧ (s.write page bs).2 ≠ 0) ∨ (∃ p : Nat, page = (p : Int) ∧ p < n ∧ (s.write page bs).1 = s.push p bs ∧ (s.write page bs).2 = 0)) ∧ StCalm (s.write page bs).1 n (k + 1) := by
  obtain ⟨h1, h2, h3, h4⟩ := h
  by_cases a : s.has page = true
  · by_cases b : 4096 < bs.length
    · have e : s.write page bs = (s, 2) := by simp [St.write, a, b]
      rw [e]
      exact ⟨.inl ⟨rfl, by simp⟩, h1, h2, h3, Nat.le_succ_of_le h4⟩
    · have e : s.write page bs = (s.push page.toNat bs, 0) := by simp [St.write, a, b, h3, St.step, St.push, h2]
      rw [e]
      simp only [St.has, Bool.and_eq_true, decide_eq_true_eq] at a
      refine ⟨.inr ⟨page.toNat, by omega, by omega, rfl, rfl⟩, h1, h2, h3, ?_⟩
      simp only [St.push, List.length_append, List.length_singleton]
      omega
  · have e : s.write page bs = (s, 1) := by simp [St.write, a]
    rw [e]
    exact ⟨.inl ⟨rfl, by simp⟩, h1, h2, h3, Nat.le_succ_of_le h4⟩

/-- Has the page i, as it reads, been written to it, among the first k writes, or was it there? -/
def okp (Q : List (Nat × List UInt8)) (i : Nat) (x : List UInt8) (base : Bool) : Nat → Bool
  | 0 => base
  | k + 1 => okp Q i x base k || ((Q.getD k (0, [])).1 == i && (Q.getD k (0, [])).2 == x)

theorem okp_setl {kept : Nat → Bool} {Q : List (Nat × List UInt8)} {P : List (List UInt8)} {i : Nat} (hi : i < P.length) : ∀ k, okp Q i ((setl kept Q P k).getD i []) ((setl kept Q P k).getD i [] == P.getD i []) k = true
  | 0 => by simp [okp, setl]
  | k + 1 => by
    unfold okp setl
    by_cases hk : kept k = true
    · rw [if_pos hk]
      by_cases hp : (Q.getD k (0, [])).1 = i
      · have : ((setl kept Q P k).set (Q.getD k (0, [])).1 (Q.getD k (0, [])).2).getD i [] = (Q.getD k (0, [])).2 := by
          rw [hp, List.getD_eq_getElem?_getD, List.getElem?_set_self (by rw [setl_len]; exact hi)]
          rfl
        rw [this, hp]
        simp
      · have : ((setl kept Q P k).set (Q.getD k (0, [])).1 (Q.getD k (0, [])).2).getD i [] = (setl kept Q P k).getD i [] := by
          rw [List.getD_eq_getElem?_getD, List.getElem?_set_ne hp, List.getD_eq_getElem?_getD]
        rw [this, okp_setl hi k]
        simp
    · rw [if_neg hk, okp_setl hi k]
      simp

abbrev SV (bs : List UInt8) : Value := .string ⟨bs.toArray⟩

theorem SV_set {ss : List (List UInt8)} {i : Nat} (bs : List UInt8) : (ss.map SV).toArray.setIfInBounds i (SV bs) = ((ss.set i bs).map SV).toArray := by
  apply Array.ext'
  simp [List.map_set]

theorem perm_in {α : Type} (A B F : List α) : (A ++ (B ++ F)).Perm (B ++ (A ++ F)) := by
  rw [← List.append_assoc, ← List.append_assoc]
  exact List.perm_append_comm.append_right F

theorem SL.toA [Strm] {w : World} {Bw Bh A F : List (Nat × Obj)} {c : Nat × Obj} (h : SL w (Bw ++ (Bh ++ (c :: (A ++ F))))) : SL w (A ++ (Bw ++ (Bh ++ (c :: F)))) :=
  h.perm ((perm_in A Bw _).trans (((perm_in A Bh _).trans (List.perm_middle.append_left Bh)).append_left Bw))

theorem SL.ofA [Strm] {w : World} {Bw Bh A F : List (Nat × Obj)} {c : Nat × Obj} (h : SL w (A ++ (Bw ++ (Bh ++ (c :: F))))) : SL w (Bw ++ (Bh ++ (c :: (A ++ F)))) :=
  h.perm ((perm_in A Bw _).trans (((perm_in A Bh _).trans (List.perm_middle.append_left Bh)).append_left Bw)).symm

/-- A slice of one's own, element by element. -/
theorem Slc.els {α : Type} {g : α → Value} {L B : List (Nat × Obj)} {T : TypeId} {v : Value} {xs : List α} (h : Slc (fun x => [g x]) 1 T v xs B) : Els (B ++ L) (fun u x => u = g x) v xs := by
  cases h with
  | nil => exact .nil
  | blk b xs cap spare fr h1 h2 h3 =>
    refine .blk b 0 cap xs h2 fun i x hi => ⟨g x, ?_, rfl⟩
    rw [Nat.zero_add]
    refine Rd.mk (.head _) ?_
    have hlt : i < xs.length := by
      rcases Nat.lt_or_ge i xs.length with h | h
      · exact h
      · rw [List.getElem?_eq_none h] at hi; cases hi
    rw [List.getElem?_toArray, flatMap_one, List.getElem?_append_left (by simpa using hlt), List.getElem?_map, hi]
    rfl

theorem map_getD {α β : Type} {l : List α} {f : α → β} {i : Nat} {d : α} (h : i < l.length) : (l.map f)[i]? = some (f (l.getD i d)) := by
  simp [List.getD_eq_getElem?_getD, h]

abbrev SE := Option Addr × Nat × Nat
abbrev gS (u : SE) : List Value := [.slice u.1 u.2.1 u.2.2]

/-- The bytes that were written, as the law keeps them. -/
structure WroteIn (F : List (Nat × Obj)) (us : List SE) (Q : List (Nat × List UInt8)) : Prop where
  len : us.length = Q.length
  el : ∀ (i : Nat) u, us[i]? = some u → Inp F (.slice u.1 u.2.1 u.2.2) (Q.getD i (0, [])).2

theorem WroteIn.push {F : List (Nat × Obj)} {us : List SE} {Q : List (Nat × List UInt8)} (h : WroteIn F us Q) {u : SE} {p : Nat} {bs : List UInt8} (hb : Inp F (.slice u.1 u.2.1 u.2.2) bs) : WroteIn F (us ++ [u]) (Q ++ [(p, bs)]) := by
  refine ⟨by simp [h.len], fun i q' hi => ?_⟩
  rcases Nat.lt_or_ge i us.length with hlt | hge
  · rw [List.getElem?_append_left hlt] at hi
    have := h.el i q' hi
    rw [h.len] at hlt
    simpa [List.getD_eq_getElem?_getD, List.getElem?_append_left hlt] using this
  · rw [List.getElem?_append_right hge] at hi
    have hi0 : i - us.length = 0 := by
      rcases Nat.eq_zero_or_pos (i - us.length) with h | h
      · exact h
      · rw [List.getElem?_eq_none (by simp; omega)] at hi; cases hi
    rw [hi0] at hi
    simp at hi
    subst hi
    have hil : i = Q.length := by have := h.len; omega
    subst hil
    simpa [List.getD_eq_getElem?_getD] using hb

end Go.Proofs.Ytoiehgiokfnmkaa.V
namespace Go.Proofs.Ytoiehgiokfnmkaa
open Go.Proofs.Ytoiehgiokfnmkaa.V

set_option maxHeartbeats 2000000 in
theorem staylaw_spec [Strm] (as' bs' : List ActV) (zs : List Int) (va vb vz : Value) (hz : zs.length ≤ 1000000000) (w : World) (F : List (Nat × Obj)) (hva : ElsA 5 (ActAt F) va as') (hvb : ElsA 5 (ActAt F) vb bs')
    (hvz : IntsIn .i64 F vz zs) (H : SL w F) : Does Try.prog 4 #[va, vb, vz] w fun r w' => r = .bool true ∧ SL w' F := by
  obtain ⟨aa, ca, rfl, hca⟩ := hva.len
  obtain ⟨ab, cb, rfl, hcb⟩ := hvb.len
  obtain ⟨az, cz, rfl, hcz⟩ := hvz.len
  refine Does.intro (args := [_, _, _]) (e := [(0, _), (1, _), (2, _)]) Try.func4 rfl Try.ntmps4 rfl rfl ?_
  repeat (first | refine RunsE.seq ?_ | refine RunsE.skip ?_ | refine RunsE.block ?_ | refine RunsE.inBlock ?_ | refine RunsE.yes rfl ?_ | refine RunsE.no rfl ?_ | refine RunsE.exit rfl ?_)
  repeat (first | refine RunsE.seq ?_ | refine RunsE.skip ?_ | refine RunsE.block ?_ | refine RunsE.inBlock ?_ | refine RunsE.yes rfl ?_ | refine RunsE.no rfl ?_ | refine RunsE.exit rfl ?_)
  refine RunsE.region ?_
  refine OpsE.ev (Ev.assign rfl) rfl ?_
  refine OpsE.nil ?_
  repeat (first | refine RunsE.seq ?_ | refine RunsE.skip ?_ | refine RunsE.block ?_ | refine RunsE.inBlock ?_ | refine RunsE.yes rfl ?_ | refine RunsE.no rfl ?_ | refine RunsE.exit rfl ?_)
  refine RunsE.region ?_
  refine OpsE.ex (Ex.call rfl Try.call5 (new_spec 6 (by decide) (by decide) w _ H)) rfl ?_; (try clear H); rintro _ w ⟨b, A, rfl, hA, H⟩
  refine OpsE.ev (Ev.move rfl) rfl ?_
  refine OpsE.ev (Ev.extract rfl rfl) rfl ?_
  refine OpsE.ev (Ev.extract rfl rfl) rfl ?_
  refine OpsE.ev (Ev.assign rfl) rfl ?_
  refine OpsE.ev (Ev.assign rfl) rfl ?_
  refine OpsE.nil ?_
  repeat (first | refine RunsE.seq ?_ | refine RunsE.skip ?_ | refine RunsE.block ?_ | refine RunsE.inBlock ?_ | refine RunsE.yes rfl ?_ | refine RunsE.no rfl ?_ | refine RunsE.exit rfl ?_)
  refine RunsE.region ?_
  refine OpsE.ev (Ev.move rfl) rfl ?_
  refine OpsE.ev (Ev.ifNilNeF rfl Try.underlying25) rfl ?_
  refine OpsE.ev (Ev.move rfl) rfl ?_
  first | (refine OpsE.yes rfl rfl ?_; refine OpsE.ev (Ev.move rfl) rfl ?_) | refine OpsE.no rfl rfl rfl ?_ | refine OpsE.off rfl rfl rfl ?_
  first | (refine OpsE.yes rfl rfl ?_; refine OpsE.ev (Ev.ptrNilEq (el := 47) rfl rfl (by kernel_rfl)) rfl ?_) | refine OpsE.no rfl rfl rfl ?_ | refine OpsE.off rfl rfl rfl ?_
  refine OpsE.ev ((by first | exact Ev.pickT rfl rfl | exact Ev.pickF rfl rfl)) rfl ?_
  refine OpsE.nil ?_
  repeat (first | refine RunsE.seq ?_ | refine RunsE.skip ?_ | refine RunsE.block ?_ | refine RunsE.inBlock ?_ | refine RunsE.yes rfl ?_ | refine RunsE.no rfl ?_ | refine RunsE.exit rfl ?_)
  refine RunsE.region ?_
  refine OpsE.ev (Ev.assign rfl) rfl ?_
  refine OpsE.nil ?_
  repeat refine RunsE.seq ?_
  refine RunsE.join (fun _ : Unit => [(1, .slice ab bs'.length cb), (2, .slice az zs.length cz), (7, .pointer (some ⟨b, 0, none⟩))]) (fun _ w => ∃ s A, StCalm s 6 20 ∧ HoldS b s A ∧ SL w (A ++ F)) (fun next => ?_) ?_
  · refine RunsE.block ?_
    refine RunsE.loop (fun i : Nat => [(0, .slice aa as'.length ca), (1, .slice ab bs'.length cb), (2, .slice az zs.length cz), (7, .pointer (some ⟨b, 0, none⟩)), (9, .int .i64 (i : Int))])
      (fun i w => i ≤ 20 ∧ ∃ s A, StCalm s 6 i ∧ HoldS b s A ∧ SL w (A ++ F)) (fun i => 20 - i) 0 ⟨rfl, rfl, rfl, rfl, rfl, trivial⟩ ⟨by omega, St.new 6, A, ⟨rfl, rfl, rfl, by decide⟩, hA, H⟩ ?_
    clear H hA A
    rintro i w ⟨hi, s, A, hc, hA, H⟩ nextL
    by_cases h1 : as'.length ≤ i
    ·
      repeat (first | refine RunsE.seq ?_ | refine RunsE.skip ?_ | refine RunsE.block ?_ | refine RunsE.inBlock ?_ | refine RunsE.yes rfl ?_ | refine RunsE.no rfl ?_ | refine RunsE.exit rfl ?_)
      refine RunsE.region ?_
      refine OpsE.ev (Ev.move rfl) rfl ?_
      refine OpsE.ev (Ev.move rfl) rfl ?_
      refine OpsE.ev (Ev.lenSl (d := 36) rfl rfl (by kernel_rfl)) rfl ?_
      refine OpsE.ev (Ev.lss (r := false) rfl rfl (decide_eq_false (by omega))) rfl ?_
      refine OpsE.ev (Ev.move rfl) rfl ?_
      first | (refine OpsE.yes rfl rfl ?_; refine OpsE.ev (Ev.move rfl) rfl ?_) | refine OpsE.no rfl rfl rfl ?_ | refine OpsE.off rfl rfl rfl ?_
      first | (refine OpsE.yes rfl rfl ?_; refine OpsE.ev (Ev.lss rfl rfl) rfl ?_) | refine OpsE.no rfl rfl rfl ?_ | refine OpsE.off rfl rfl rfl ?_
      refine OpsE.ev ((by first | exact Ev.pickT rfl rfl | exact Ev.pickF rfl rfl)) rfl ?_
      refine OpsE.nil ?_
      repeat refine RunsE.seq ?_
      refine RunsE.no rfl ?_
      refine RunsE.exit rfl ?_
      exact next () _ _ ⟨s, A, ⟨hc.pages, hc.armed, hc.down, by have := hc.queue; omega⟩, hA, H⟩ ⟨rfl, rfl, rfl, trivial⟩
    by_cases h2 : i = 20
    ·
      repeat (first | refine RunsE.seq ?_ | refine RunsE.skip ?_ | refine RunsE.block ?_ | refine RunsE.inBlock ?_ | refine RunsE.yes rfl ?_ | refine RunsE.no rfl ?_ | refine RunsE.exit rfl ?_)
      refine RunsE.region ?_
      refine OpsE.ev (Ev.move rfl) rfl ?_
      refine OpsE.ev (Ev.move rfl) rfl ?_
      refine OpsE.ev (Ev.lenSl (d := 36) rfl rfl (by kernel_rfl)) rfl ?_
      refine OpsE.ev (Ev.lss (r := true) rfl rfl (decide_eq_true (by omega))) rfl ?_
      refine OpsE.ev (Ev.move rfl) rfl ?_
      first | (refine OpsE.yes rfl rfl ?_; refine OpsE.ev (Ev.move rfl) rfl ?_) | refine OpsE.no rfl rfl rfl ?_ | refine OpsE.off rfl rfl rfl ?_
      first | (refine OpsE.yes rfl rfl ?_; refine OpsE.ev (Ev.lss (r := false) rfl rfl (decide_eq_false (by omega))) rfl ?_) | refine OpsE.no rfl rfl rfl ?_ | refine OpsE.off rfl rfl rfl ?_
      refine OpsE.ev ((by first | exact Ev.pickT rfl rfl | exact Ev.pickF rfl rfl)) rfl ?_
      refine OpsE.nil ?_
      repeat refine RunsE.seq ?_
      refine RunsE.no rfl ?_
      refine RunsE.exit rfl ?_
      exact next () _ _ ⟨s, A, ⟨hc.pages, hc.armed, hc.down, by have := hc.queue; omega⟩, hA, H⟩ ⟨rfl, rfl, rfl, trivial⟩
    clear next
    obtain ⟨x, hx⟩ : ∃ x, as'[i]? = some x := ⟨as'[i]'(by omega), by simp [show i < as'.length by omega]⟩
    obtain ⟨ba, oa, rfl, hat⟩ := hva.at hx
    obtain ⟨vd, hd1, hd2⟩ := hat.data
    obtain ⟨ad, cd, rfl, _⟩ := hd2.len
    have hq := hc.queue
    repeat (first | refine RunsE.seq ?_ | refine RunsE.skip ?_ | refine RunsE.block ?_ | refine RunsE.inBlock ?_ | refine RunsE.yes rfl ?_ | refine RunsE.no rfl ?_ | refine RunsE.exit rfl ?_)
    refine RunsE.region ?_
    refine OpsE.ev (Ev.move rfl) rfl ?_
    refine OpsE.ev (Ev.move rfl) rfl ?_
    refine OpsE.ev (Ev.lenSl (d := 36) rfl rfl (by kernel_rfl)) rfl ?_
    refine OpsE.ev (Ev.lss (r := true) rfl rfl (decide_eq_true (by omega))) rfl ?_
    refine OpsE.ev (Ev.move rfl) rfl ?_
    first | (refine OpsE.yes rfl rfl ?_; refine OpsE.ev (Ev.move rfl) rfl ?_) | refine OpsE.no rfl rfl rfl ?_ | refine OpsE.off rfl rfl rfl ?_
    first | (refine OpsE.yes rfl rfl ?_; refine OpsE.ev (Ev.lss (r := true) rfl rfl (decide_eq_true (by omega))) rfl ?_) | refine OpsE.no rfl rfl rfl ?_ | refine OpsE.off rfl rfl rfl ?_
    refine OpsE.ev ((by first | exact Ev.pickT rfl rfl | exact Ev.pickF rfl rfl)) rfl ?_
    refine OpsE.nil ?_
    repeat (first | refine RunsE.seq ?_ | refine RunsE.skip ?_ | refine RunsE.block ?_ | refine RunsE.inBlock ?_ | refine RunsE.yes rfl ?_ | refine RunsE.no rfl ?_ | refine RunsE.exit rfl ?_)
    repeat (first | refine RunsE.seq ?_ | refine RunsE.skip ?_ | refine RunsE.block ?_ | refine RunsE.inBlock ?_ | refine RunsE.yes rfl ?_ | refine RunsE.no rfl ?_ | refine RunsE.exit rfl ?_)
    refine RunsE.drawS H [11] (by kernel_rfl) ?_; (try clear H); intro w H
    refine OpsD.take 0 rfl (by kernel_rfl) (by first | exact H | exact H.drop | exact H.drop.drop | exact H.dropL | exact H.drop.dropL | exact H.dropL.dropL) (fun w H => Ev.move rfl) rfl ?_
    refine OpsD.take 1 rfl (by kernel_rfl) (by first | exact H | exact H.drop | exact H.drop.drop | exact H.dropL | exact H.drop.dropL | exact H.dropL.dropL) (fun w H => Ev.move rfl) rfl ?_
    refine OpsD.take 2 rfl (by kernel_rfl) (by first | exact H | exact H.drop | exact H.drop.drop | exact H.dropL | exact H.drop.dropL | exact H.dropL.dropL) (fun w H => Ev.move rfl) rfl ?_
    refine OpsD.take 3 rfl (by kernel_rfl) (by first | exact H | exact H.drop | exact H.drop.drop | exact H.dropL | exact H.drop.dropL | exact H.dropL.dropL) (fun w H => Ev.iaSl (n := 36) (sz := 5) (m := i) rfl rfl rfl (by kernel_rfl) (by omega)) rfl ?_
    refine OpsD.take 4 rfl (by kernel_rfl) (by first | exact H | exact H.drop | exact H.drop.drop | exact H.dropL | exact H.drop.dropL | exact H.dropL.dropL) (fun w H => Ev.fieldAddr (o := 1) rfl (by kernel_rfl)) rfl ?_
    refine OpsD.take 5 rfl (by kernel_rfl) (by first | exact H | exact H.drop | exact H.drop.drop | exact H.dropL | exact H.drop.dropL | exact H.dropL.dropL) (fun w H => Ev.load H rfl (by kernel_rfl) hat.page.right) rfl ?_
    refine OpsD.take 6 rfl (by kernel_rfl) (by first | exact H | exact H.drop | exact H.drop.drop | exact H.dropL | exact H.drop.dropL | exact H.dropL.dropL) (fun w H => Ev.move rfl) rfl ?_
    refine OpsD.take 7 rfl (by kernel_rfl) (by first | exact H | exact H.drop | exact H.drop.drop | exact H.dropL | exact H.drop.dropL | exact H.dropL.dropL) (fun w H => Ev.move rfl) rfl ?_
    refine OpsD.take 8 rfl (by kernel_rfl) (by first | exact H | exact H.drop | exact H.drop.drop | exact H.dropL | exact H.drop.dropL | exact H.dropL.dropL) (fun w H => Ev.iaSl (n := 36) (sz := 5) (m := i) rfl rfl rfl (by kernel_rfl) (by omega)) rfl ?_
    refine OpsD.take 9 rfl (by kernel_rfl) (by first | exact H | exact H.drop | exact H.drop.drop | exact H.dropL | exact H.drop.dropL | exact H.dropL.dropL) (fun w H => Ev.fieldAddr (o := 3) rfl (by kernel_rfl)) rfl ?_
    refine OpsD.take 10 rfl (by kernel_rfl) (by first | exact H | exact H.drop | exact H.drop.drop | exact H.dropL | exact H.drop.dropL | exact H.dropL.dropL) (fun w H => Ev.load H rfl (by kernel_rfl) hd1.right) rfl ?_
    refine OpsD.one 11 (by kernel_rfl) (StepD.exT rfl rfl (Ex.call rfl Try.call7 (write_spec s x.page x.data _ b A (by omega) hat.dataB w _ hA hd2 H)) rfl ?_); (try clear H); rintro _ w ⟨A, rfl, hA, H⟩
    refine OpsD.done (by kernel_rfl) ?_
    repeat (first | refine RunsE.seq ?_ | refine RunsE.skip ?_ | refine RunsE.block ?_ | refine RunsE.inBlock ?_ | refine RunsE.yes rfl ?_ | refine RunsE.no rfl ?_ | refine RunsE.exit rfl ?_)
    refine RunsE.region ?_
    refine OpsE.ev (Ev.move rfl) rfl ?_
    refine OpsE.ev (Ev.add rfl rfl) rfl ?_
    refine OpsE.ev (Ev.assign rfl) rfl ?_
    refine OpsE.nil ?_
    exact nextL (i + 1) _ _ (by omega) ⟨by omega, _, A, (hc.write x.page x.data).2, hA, H⟩ ⟨rfl, rfl, rfl, rfl, rfl, trivial⟩
  clear H hA A
  rintro _ w ⟨s, A, hc, hA, H⟩
  have hq := hc.queue
  have hsy : s.sync = (s.settle fun _ => true, 0) := by simp [St.sync, hc.down, St.step, hc.armed]
  repeat (first | refine RunsE.seq ?_ | refine RunsE.skip ?_ | refine RunsE.block ?_ | refine RunsE.inBlock ?_ | refine RunsE.yes rfl ?_ | refine RunsE.no rfl ?_ | refine RunsE.exit rfl ?_)
  refine RunsE.region ?_
  refine OpsE.ev (Ev.move rfl) rfl ?_
  refine OpsE.ex (Ex.call rfl Try.call9 (sync_spec s b A (by omega) w _ hA H)) rfl ?_; (try clear H); rw [hsy]; rintro _ w ⟨A, rfl, hA, H⟩
  refine OpsE.ev (Ev.ifNilNeF rfl Try.underlying25) rfl ?_
  refine OpsE.ev (Ev.move rfl) rfl ?_
  first | (refine OpsE.yes rfl rfl ?_; refine OpsE.ev (Ev.move rfl) rfl ?_) | refine OpsE.no rfl rfl rfl ?_ | refine OpsE.off rfl rfl rfl ?_
  first | (refine OpsE.yes rfl rfl ?_; refine OpsE.ex (Ex.call rfl Try.call10 (loose_spec _ b A w _ hA H)) rfl ?_; (try clear H); rintro _ w ⟨rfl, H⟩) | refine OpsE.no rfl rfl rfl ?_ | refine OpsE.off rfl rfl rfl ?_
  first | (refine OpsE.yes rfl rfl ?_; refine OpsE.ev (Ev.neq (r := false) rfl rfl rfl) rfl ?_) | refine OpsE.no rfl rfl rfl ?_ | refine OpsE.off rfl rfl rfl ?_
  refine OpsE.ev ((by first | exact Ev.pickT rfl rfl | exact Ev.pickF rfl rfl)) rfl ?_
  refine OpsE.nil ?_
  obtain ⟨s0, hs0⟩ : ∃ s0, s0 = s.settle fun _ => true := ⟨_, rfl⟩
  have hc0 : StCalm s0 6 0 := by rw [hs0]; exact ⟨by simp only [St.settle, setl_len]; exact hc.pages, hc.armed, hc.down, by simp [St.settle]⟩
  replace hA : HoldS b s0 A := by rw [hs0]; exact hA
  have hq0 : s0.Q = [] := List.eq_nil_of_length_eq_zero (by have := hc0.queue; omega)
  repeat (first | refine RunsE.seq ?_ | refine RunsE.skip ?_ | refine RunsE.block ?_ | refine RunsE.inBlock ?_ | refine RunsE.yes rfl ?_ | refine RunsE.no rfl ?_ | refine RunsE.exit rfl ?_)
  refine RunsE.region ?_
  refine OpsE.ex (Ex.alloc (zv := .agg ((List.replicate 6 ([] : List UInt8)).map SV).toArray) H (by kernel_rfl)) rfl ?_; (try clear H); rintro _ w ⟨b10, rfl, H⟩; simp only [Value.cells] at H
  refine OpsE.nil ?_
  repeat (first | refine RunsE.seq ?_ | refine RunsE.skip ?_ | refine RunsE.block ?_ | refine RunsE.inBlock ?_ | refine RunsE.yes rfl ?_ | refine RunsE.no rfl ?_ | refine RunsE.exit rfl ?_)
  refine RunsE.region ?_
  refine OpsE.ev (Ev.assign rfl) rfl ?_
  refine OpsE.nil ?_
  repeat refine RunsE.seq ?_
  refine RunsE.join (fun _ : Unit => [(1, .slice ab bs'.length cb), (2, .slice az zs.length cz), (7, .pointer (some ⟨b, 0, none⟩)), (10, .pointer (some ⟨b10, 0, none⟩))])
    (fun _ w => SL w ((b10, .cells (s0.P.map SV).toArray 39 (0, 0)) :: (A ++ F))) (fun next => ?_) ?_
  · refine RunsE.block ?_
    refine RunsE.loop (fun i : Nat => [(1, .slice ab bs'.length cb), (2, .slice az zs.length cz), (7, .pointer (some ⟨b, 0, none⟩)), (10, .pointer (some ⟨b10, 0, none⟩)), (11, .int .i64 (i : Int))])
      (fun i w => i ≤ 6 ∧ ∃ ss : List (List UInt8), ss.length = 6 ∧ (∀ j, j < i → ss.getD j [] = s0.P.getD j []) ∧ SL w ((b10, .cells (ss.map SV).toArray 39 (0, 0)) :: (A ++ F))) (fun i => 6 - i) 0
      ⟨rfl, rfl, rfl, rfl, rfl, trivial⟩ ⟨by omega, _, by simp, fun j h => by omega, H⟩ ?_
    clear H
    rintro i w ⟨hi, ss, hsl, hss, H⟩ nextL
    by_cases h1 : i = 6
    ·
      repeat (first | refine RunsE.seq ?_ | refine RunsE.skip ?_ | refine RunsE.block ?_ | refine RunsE.inBlock ?_ | refine RunsE.yes rfl ?_ | refine RunsE.no rfl ?_ | refine RunsE.exit rfl ?_)
      refine RunsE.region ?_
      refine OpsE.ev (Ev.move rfl) rfl ?_
      refine OpsE.ev (Ev.lss (r := false) rfl rfl (decide_eq_false (by omega))) rfl ?_
      refine OpsE.nil ?_
      repeat refine RunsE.seq ?_
      refine RunsE.no rfl ?_
      refine RunsE.exit rfl ?_
      have he : ss = s0.P := by
        have hp := hc0.pages
        apply List.ext_getElem (by omega)
        intro j h2 h3
        have := hss j (by omega)
        simpa [List.getD_eq_getElem?_getD, h2, h3] using this
      rw [he] at H
      exact next () _ _ H ⟨rfl, rfl, rfl, rfl, trivial⟩
    clear next
    have hrd : s0.read (i : Int) = (s0.P.getD i [], 0) := by
      have hp := hc0.pages
      rw [read_up (by simp only [St.has, Bool.and_eq_true, decide_eq_true_eq]; omega) hc0.down, Int.toNat_natCast, St.page, hq0]
      rfl
    replace H := H.mid
    repeat (first | refine RunsE.seq ?_ | refine RunsE.skip ?_ | refine RunsE.block ?_ | refine RunsE.inBlock ?_ | refine RunsE.yes rfl ?_ | refine RunsE.no rfl ?_ | refine RunsE.exit rfl ?_)
    refine RunsE.region ?_
    refine OpsE.ev (Ev.move rfl) rfl ?_
    refine OpsE.ev (Ev.lss (r := true) rfl rfl (decide_eq_true (by omega))) rfl ?_
    refine OpsE.nil ?_
    repeat (first | refine RunsE.seq ?_ | refine RunsE.skip ?_ | refine RunsE.block ?_ | refine RunsE.inBlock ?_ | refine RunsE.yes rfl ?_ | refine RunsE.no rfl ?_ | refine RunsE.exit rfl ?_)
    repeat (first | refine RunsE.seq ?_ | refine RunsE.skip ?_ | refine RunsE.block ?_ | refine RunsE.inBlock ?_ | refine RunsE.yes rfl ?_ | refine RunsE.no rfl ?_ | refine RunsE.exit rfl ?_)
    refine RunsE.region ?_
    refine OpsE.ev (Ev.move rfl) rfl ?_
    refine OpsE.ev (Ev.move rfl) rfl ?_
    refine OpsE.ex (Ex.call rfl Try.call8 (read_spec s0 (i : Int) b A (by rw [hq0]; decide) w _ hA H)) rfl ?_; (try clear H); rw [hrd]; rintro _ w ⟨v, B, rfl, hs, H⟩
    refine OpsE.ev (Ev.move rfl) rfl ?_
    refine OpsE.ev (Ev.extract rfl rfl) rfl ?_
    refine OpsE.ev (Ev.extract rfl rfl) rfl ?_
    refine OpsE.ev (Ev.assign rfl) rfl ?_
    refine OpsE.ev (Ev.assign rfl) rfl ?_
    refine OpsE.nil ?_
    replace H : SL w (B ++ ((b10, .cells (ss.map SV).toArray 39 (0, 0)) :: (A ++ F))) := H.perm ((List.perm_middle.symm).append_left B)
    repeat (first | refine RunsE.seq ?_ | refine RunsE.skip ?_ | refine RunsE.block ?_ | refine RunsE.inBlock ?_ | refine RunsE.yes rfl ?_ | refine RunsE.no rfl ?_ | refine RunsE.exit rfl ?_)
    refine RunsE.region ?_
    refine OpsE.ev (Ev.move rfl) rfl ?_
    refine OpsE.ev (Ev.ifNilNeF rfl Try.underlying25) rfl ?_
    refine OpsE.nil ?_
    repeat (first | refine RunsE.seq ?_ | refine RunsE.skip ?_ | refine RunsE.block ?_ | refine RunsE.inBlock ?_ | refine RunsE.yes rfl ?_ | refine RunsE.no rfl ?_ | refine RunsE.exit rfl ?_)
    refine RunsE.region ?_
    refine OpsE.ev (Ev.move rfl) rfl ?_
    refine OpsE.ev (Ev.move rfl) rfl ?_
    refine OpsE.ev (Ev.inpStr H rfl hs.inp Try.underlying22 Try.underlying5 Try.underlying9) rfl ?_
    refine OpsE.ev (Ev.iaArr (n := 6) (sz := 1) (m := i) rfl rfl rfl (by kernel_rfl) (by omega)) rfl ?_
    refine OpsE.exn (Ex.store1 (v := SV (s0.P.getD i [])) H rfl rfl (by kernel_rfl) rfl (Upd.skip u0 B) (by simp; omega) (Thaw.zero _ _) (SV_set _)) ?_; (try clear H); intro _ w H
    refine OpsE.nil ?_
    repeat (first | refine RunsE.seq ?_ | refine RunsE.skip ?_ | refine RunsE.block ?_ | refine RunsE.inBlock ?_ | refine RunsE.yes rfl ?_ | refine RunsE.no rfl ?_ | refine RunsE.exit rfl ?_)
    refine RunsE.region ?_
    refine OpsE.ev (Ev.move rfl) rfl ?_
    refine OpsE.ev (Ev.add rfl rfl) rfl ?_
    refine OpsE.ev (Ev.assign rfl) rfl ?_
    refine OpsE.nil ?_
    refine nextL (i + 1) _ _ (by omega) ⟨by omega, ss.set i (s0.P.getD i []), by simpa using hsl, fun j hj => ?_, H.dropL⟩ ⟨rfl, rfl, rfl, rfl, rfl, trivial⟩
    by_cases hij : i = j
    · subst hij
      simp [List.getD_eq_getElem?_getD, show i < ss.length by omega]
    · have := hss j (by omega)
      rw [← this]
      simp [List.getD_eq_getElem?_getD, List.getElem?_set_ne hij]
  clear H
  rintro _ w H
  obtain ⟨C, hC⟩ : ∃ C : Nat × Obj, C = (b10, .cells (s0.P.map SV).toArray 39 (0, 0)) := ⟨_, rfl⟩
  rw [← hC] at H
  repeat (first | refine RunsE.seq ?_ | refine RunsE.skip ?_ | refine RunsE.block ?_ | refine RunsE.inBlock ?_ | refine RunsE.yes rfl ?_ | refine RunsE.no rfl ?_ | refine RunsE.exit rfl ?_)
  refine RunsE.region ?_
  refine OpsE.ev (Ev.assign rfl) rfl ?_
  refine OpsE.nil ?_
  repeat (first | refine RunsE.seq ?_ | refine RunsE.skip ?_ | refine RunsE.block ?_ | refine RunsE.inBlock ?_ | refine RunsE.yes rfl ?_ | refine RunsE.no rfl ?_ | refine RunsE.exit rfl ?_)
  refine RunsE.region ?_
  refine OpsE.ev (Ev.assign rfl) rfl ?_
  refine OpsE.nil ?_
  repeat (first | refine RunsE.seq ?_ | refine RunsE.skip ?_ | refine RunsE.block ?_ | refine RunsE.inBlock ?_ | refine RunsE.yes rfl ?_ | refine RunsE.no rfl ?_ | refine RunsE.exit rfl ?_)
  refine RunsE.region ?_
  refine OpsE.ev (Ev.assign rfl) rfl ?_
  refine OpsE.nil ?_
  repeat refine RunsE.seq ?_
  refine RunsE.join (fun v : Value × Value => [(2, .slice az zs.length cz), (7, .pointer (some ⟨b, 0, none⟩)), (10, .pointer (some ⟨b10, 0, none⟩)), (14, v.1), (15, v.2)])
    (fun v w => ∃ s A us Bw Bh, StCalm s 6 20 ∧ s.P = s0.P ∧ HoldS b s A ∧ Slc gS 1 22 v.1 us Bw ∧ WroteIn F us s.Q ∧ Slc gI 1 3 v.2 (s.Q.map fun q => (q.1 : Int)) Bh ∧ SL w (Bw ++ (Bh ++ (C :: (A ++ F))))) (fun next => ?_) ?_
  · refine RunsE.block ?_
    refine RunsE.loop (fun i : Nat × Value × Value => [(1, .slice ab bs'.length cb), (2, .slice az zs.length cz), (7, .pointer (some ⟨b, 0, none⟩)), (10, .pointer (some ⟨b10, 0, none⟩)), (14, i.2.1), (15, i.2.2), (16, .int .i64 (i.1 : Int))])
      (fun i w => i.1 ≤ 20 ∧ ∃ s A us Bw Bh, StCalm s 6 i.1 ∧ s.P = s0.P ∧ HoldS b s A ∧ Slc gS 1 22 i.2.1 us Bw ∧ WroteIn F us s.Q ∧ Slc gI 1 3 i.2.2 (s.Q.map fun q => (q.1 : Int)) Bh ∧ SL w (Bw ++ (Bh ++ (C :: (A ++ F)))))
      (fun i => 20 - i.1) (0, .slice none 0 0, .slice none 0 0) ⟨rfl, rfl, rfl, rfl, rfl, rfl, rfl, trivial⟩ ⟨by simp only; omega, s0, A, [], [], [], hc0, rfl, hA, .nil, ⟨by rw [hq0]; rfl, fun i u h => by simp at h⟩, by rw [hq0]; exact .nil, H⟩ ?_
    clear H hA A
    rintro ⟨i, vw, vh⟩ w ⟨hi, s, A, us, Bw, Bh, hc, hsP, hA, hw, hu, hh, H⟩ nextL
    simp only at hi hc hw hh H
    by_cases h1 : bs'.length ≤ i
    ·
      repeat (first | refine RunsE.seq ?_ | refine RunsE.skip ?_ | refine RunsE.block ?_ | refine RunsE.inBlock ?_ | refine RunsE.yes rfl ?_ | refine RunsE.no rfl ?_ | refine RunsE.exit rfl ?_)
      refine RunsE.region ?_
      refine OpsE.ev (Ev.move rfl) rfl ?_
      refine OpsE.ev (Ev.move rfl) rfl ?_
      refine OpsE.ev (Ev.lenSl (d := 36) rfl rfl (by kernel_rfl)) rfl ?_
      refine OpsE.ev (Ev.lss (r := false) rfl rfl (decide_eq_false (by simp only; omega))) rfl ?_
      refine OpsE.ev (Ev.move rfl) rfl ?_
      first | (refine OpsE.yes rfl rfl ?_; refine OpsE.ev (Ev.move rfl) rfl ?_) | refine OpsE.no rfl rfl rfl ?_ | refine OpsE.off rfl rfl rfl ?_
      first | (refine OpsE.yes rfl rfl ?_; refine OpsE.ev (Ev.lss rfl rfl) rfl ?_) | refine OpsE.no rfl rfl rfl ?_ | refine OpsE.off rfl rfl rfl ?_
      refine OpsE.ev ((by first | exact Ev.pickT rfl rfl | exact Ev.pickF rfl rfl)) rfl ?_
      refine OpsE.nil ?_
      repeat refine RunsE.seq ?_
      refine RunsE.no rfl ?_
      refine RunsE.exit rfl ?_
      exact next (vw, vh) _ _ ⟨s, A, us, Bw, Bh, ⟨hc.pages, hc.armed, hc.down, by have := hc.queue; omega⟩, hsP, hA, hw, hu, hh, H⟩ ⟨rfl, rfl, rfl, rfl, rfl, trivial⟩
    by_cases h2 : i = 20
    ·
      repeat (first | refine RunsE.seq ?_ | refine RunsE.skip ?_ | refine RunsE.block ?_ | refine RunsE.inBlock ?_ | refine RunsE.yes rfl ?_ | refine RunsE.no rfl ?_ | refine RunsE.exit rfl ?_)
      refine RunsE.region ?_
      refine OpsE.ev (Ev.move rfl) rfl ?_
      refine OpsE.ev (Ev.move rfl) rfl ?_
      refine OpsE.ev (Ev.lenSl (d := 36) rfl rfl (by kernel_rfl)) rfl ?_
      refine OpsE.ev (Ev.lss (r := true) rfl rfl (decide_eq_true (by simp only; omega))) rfl ?_
      refine OpsE.ev (Ev.move rfl) rfl ?_
      first | (refine OpsE.yes rfl rfl ?_; refine OpsE.ev (Ev.move rfl) rfl ?_) | refine OpsE.no rfl rfl rfl ?_ | refine OpsE.off rfl rfl rfl ?_
      first | (refine OpsE.yes rfl rfl ?_; refine OpsE.ev (Ev.lss (r := false) rfl rfl (decide_eq_false (by simp only; omega))) rfl ?_) | refine OpsE.no rfl rfl rfl ?_ | refine OpsE.off rfl rfl rfl ?_
      refine OpsE.ev ((by first | exact Ev.pickT rfl rfl | exact Ev.pickF rfl rfl)) rfl ?_
      refine OpsE.nil ?_
      repeat refine RunsE.seq ?_
      refine RunsE.no rfl ?_
      refine RunsE.exit rfl ?_
      exact next (vw, vh) _ _ ⟨s, A, us, Bw, Bh, ⟨hc.pages, hc.armed, hc.down, by have := hc.queue; omega⟩, hsP, hA, hw, hu, hh, H⟩ ⟨rfl, rfl, rfl, rfl, rfl, trivial⟩
    clear next
    obtain ⟨x, hx⟩ : ∃ x, bs'[i]? = some x := ⟨bs'[i]'(by omega), by simp [show i < bs'.length by omega]⟩
    obtain ⟨ba, oa, rfl, hat⟩ := hvb.at hx
    obtain ⟨vd, hd1, hd2⟩ := hat.data
    obtain ⟨ad, cd, rfl, _⟩ := hd2.len
    have hq := hc.queue
    have hul := hu.len
    have hpage := hat.page
    obtain ⟨hcase, hc'⟩ := hc.write x.page x.data
    replace H := H.toA
    repeat (first | refine RunsE.seq ?_ | refine RunsE.skip ?_ | refine RunsE.block ?_ | refine RunsE.inBlock ?_ | refine RunsE.yes rfl ?_ | refine RunsE.no rfl ?_ | refine RunsE.exit rfl ?_)
    refine RunsE.region ?_
    refine OpsE.ev (Ev.move rfl) rfl ?_
    refine OpsE.ev (Ev.move rfl) rfl ?_
    refine OpsE.ev (Ev.lenSl (d := 36) rfl rfl (by kernel_rfl)) rfl ?_
    refine OpsE.ev (Ev.lss (r := true) rfl rfl (decide_eq_true (by simp only; omega))) rfl ?_
    refine OpsE.ev (Ev.move rfl) rfl ?_
    first | (refine OpsE.yes rfl rfl ?_; refine OpsE.ev (Ev.move rfl) rfl ?_) | refine OpsE.no rfl rfl rfl ?_ | refine OpsE.off rfl rfl rfl ?_
    first | (refine OpsE.yes rfl rfl ?_; refine OpsE.ev (Ev.lss (r := true) rfl rfl (decide_eq_true (by simp only; omega))) rfl ?_) | refine OpsE.no rfl rfl rfl ?_ | refine OpsE.off rfl rfl rfl ?_
    refine OpsE.ev ((by first | exact Ev.pickT rfl rfl | exact Ev.pickF rfl rfl)) rfl ?_
    refine OpsE.nil ?_
    repeat (first | refine RunsE.seq ?_ | refine RunsE.skip ?_ | refine RunsE.block ?_ | refine RunsE.inBlock ?_ | refine RunsE.yes rfl ?_ | refine RunsE.no rfl ?_ | refine RunsE.exit rfl ?_)
    rcases hcase with ⟨e1, e2⟩ | ⟨p, hp, hp6, e1, e2⟩
    · have e3 : EV (s.write x.page x.data).2 = .iface 44 (.int .i64 ((s.write x.page x.data).2 : Int)) := ErrV_some e2
      repeat (first | refine RunsE.seq ?_ | refine RunsE.skip ?_ | refine RunsE.block ?_ | refine RunsE.inBlock ?_ | refine RunsE.yes rfl ?_ | refine RunsE.no rfl ?_ | refine RunsE.exit rfl ?_)
      refine RunsE.drawS H [11] (by kernel_rfl) ?_; (try clear H); intro w H
      refine OpsD.take 0 rfl (by kernel_rfl) (by first | exact H | exact H.drop | exact H.drop.drop | exact H.dropL | exact H.drop.dropL | exact H.dropL.dropL) (fun w H => Ev.move rfl) rfl ?_
      refine OpsD.take 1 rfl (by kernel_rfl) (by first | exact H | exact H.drop | exact H.drop.drop | exact H.dropL | exact H.drop.dropL | exact H.dropL.dropL) (fun w H => Ev.move rfl) rfl ?_
      refine OpsD.take 2 rfl (by kernel_rfl) (by first | exact H | exact H.drop | exact H.drop.drop | exact H.dropL | exact H.drop.dropL | exact H.dropL.dropL) (fun w H => Ev.move rfl) rfl ?_
      refine OpsD.take 3 rfl (by kernel_rfl) (by first | exact H | exact H.drop | exact H.drop.drop | exact H.dropL | exact H.drop.dropL | exact H.dropL.dropL) (fun w H => Ev.iaSl (n := 36) (sz := 5) (m := i) rfl rfl rfl (by kernel_rfl) (by omega)) rfl ?_
      refine OpsD.take 4 rfl (by kernel_rfl) (by first | exact H | exact H.drop | exact H.drop.drop | exact H.dropL | exact H.drop.dropL | exact H.dropL.dropL) (fun w H => Ev.fieldAddr (o := 1) rfl (by kernel_rfl)) rfl ?_
      refine OpsD.take 5 rfl (by kernel_rfl) (by first | exact H | exact H.drop | exact H.drop.drop | exact H.dropL | exact H.drop.dropL | exact H.dropL.dropL) (fun w H => Ev.load H rfl (by kernel_rfl) hpage.tail.right.right.right) rfl ?_
      refine OpsD.take 6 rfl (by kernel_rfl) (by first | exact H | exact H.drop | exact H.drop.drop | exact H.dropL | exact H.drop.dropL | exact H.dropL.dropL) (fun w H => Ev.move rfl) rfl ?_
      refine OpsD.take 7 rfl (by kernel_rfl) (by first | exact H | exact H.drop | exact H.drop.drop | exact H.dropL | exact H.drop.dropL | exact H.dropL.dropL) (fun w H => Ev.move rfl) rfl ?_
      refine OpsD.take 8 rfl (by kernel_rfl) (by first | exact H | exact H.drop | exact H.drop.drop | exact H.dropL | exact H.drop.dropL | exact H.dropL.dropL) (fun w H => Ev.iaSl (n := 36) (sz := 5) (m := i) rfl rfl rfl (by kernel_rfl) (by omega)) rfl ?_
      refine OpsD.take 9 rfl (by kernel_rfl) (by first | exact H | exact H.drop | exact H.drop.drop | exact H.dropL | exact H.drop.dropL | exact H.dropL.dropL) (fun w H => Ev.fieldAddr (o := 3) rfl (by kernel_rfl)) rfl ?_
      refine OpsD.take 10 rfl (by kernel_rfl) (by first | exact H | exact H.drop | exact H.drop.drop | exact H.dropL | exact H.drop.dropL | exact H.dropL.dropL) (fun w H => Ev.load H rfl (by kernel_rfl) hd1.tail.right.right.right) rfl ?_
      refine OpsD.one 11 (by kernel_rfl) (StepD.exT rfl rfl (Ex.call rfl Try.call7 (write_spec s x.page x.data _ b A (by omega) hat.dataB w _ hA hd2.tail.right.right H)) rfl ?_); (try clear H); rintro r w ⟨A, hr, hA, H⟩; rw [e3] at hr; subst hr; rw [e1] at hA
      refine OpsD.takeU 12 rfl (by kernel_rfl) (fun w => Ev.ifNilEq rfl Try.underlying25) rfl ?_
      refine OpsD.done (by kernel_rfl) ?_
      repeat refine RunsE.seq ?_
      refine RunsE.no rfl ?_
      refine RunsE.skip ?_
      repeat (first | refine RunsE.seq ?_ | refine RunsE.skip ?_ | refine RunsE.block ?_ | refine RunsE.inBlock ?_ | refine RunsE.yes rfl ?_ | refine RunsE.no rfl ?_ | refine RunsE.exit rfl ?_)
      refine RunsE.region ?_
      refine OpsE.ev (Ev.move rfl) rfl ?_
      refine OpsE.ev (Ev.add rfl rfl) rfl ?_
      refine OpsE.ev (Ev.assign rfl) rfl ?_
      refine OpsE.nil ?_
      rw [e1] at hc'
      exact nextL (i + 1, vw, vh) _ _ (by simp only; omega) ⟨by simp only; omega, s, A, us, Bw, Bh, hc', hsP, hA, hw, hu, hh, H.ofA⟩ ⟨rfl, rfl, rfl, rfl, rfl, rfl, rfl, trivial⟩
    · have e3 : EV (s.write x.page x.data).2 = .nilIface := ErrV_nil e2
      rw [e1] at hc'
      repeat (first | refine RunsE.seq ?_ | refine RunsE.skip ?_ | refine RunsE.block ?_ | refine RunsE.inBlock ?_ | refine RunsE.yes rfl ?_ | refine RunsE.no rfl ?_ | refine RunsE.exit rfl ?_)
      refine RunsE.drawS H [11] (by kernel_rfl) ?_; (try clear H); intro w H
      refine OpsD.take 0 rfl (by kernel_rfl) (by first | exact H | exact H.drop | exact H.drop.drop | exact H.dropL | exact H.drop.dropL | exact H.dropL.dropL) (fun w H => Ev.move rfl) rfl ?_
      refine OpsD.take 1 rfl (by kernel_rfl) (by first | exact H | exact H.drop | exact H.drop.drop | exact H.dropL | exact H.drop.dropL | exact H.dropL.dropL) (fun w H => Ev.move rfl) rfl ?_
      refine OpsD.take 2 rfl (by kernel_rfl) (by first | exact H | exact H.drop | exact H.drop.drop | exact H.dropL | exact H.drop.dropL | exact H.dropL.dropL) (fun w H => Ev.move rfl) rfl ?_
      refine OpsD.take 3 rfl (by kernel_rfl) (by first | exact H | exact H.drop | exact H.drop.drop | exact H.dropL | exact H.drop.dropL | exact H.dropL.dropL) (fun w H => Ev.iaSl (n := 36) (sz := 5) (m := i) rfl rfl rfl (by kernel_rfl) (by omega)) rfl ?_
      refine OpsD.take 4 rfl (by kernel_rfl) (by first | exact H | exact H.drop | exact H.drop.drop | exact H.dropL | exact H.drop.dropL | exact H.dropL.dropL) (fun w H => Ev.fieldAddr (o := 1) rfl (by kernel_rfl)) rfl ?_
      refine OpsD.take 5 rfl (by kernel_rfl) (by first | exact H | exact H.drop | exact H.drop.drop | exact H.dropL | exact H.drop.dropL | exact H.dropL.dropL) (fun w H => Ev.load H rfl (by kernel_rfl) hpage.tail.right.right.right) rfl ?_
      refine OpsD.take 6 rfl (by kernel_rfl) (by first | exact H | exact H.drop | exact H.drop.drop | exact H.dropL | exact H.drop.dropL | exact H.dropL.dropL) (fun w H => Ev.move rfl) rfl ?_
      refine OpsD.take 7 rfl (by kernel_rfl) (by first | exact H | exact H.drop | exact H.drop.drop | exact H.dropL | exact H.drop.dropL | exact H.dropL.dropL) (fun w H => Ev.move rfl) rfl ?_
      refine OpsD.take 8 rfl (by kernel_rfl) (by first | exact H | exact H.drop | exact H.drop.drop | exact H.dropL | exact H.drop.dropL | exact H.dropL.dropL) (fun w H => Ev.iaSl (n := 36) (sz := 5) (m := i) rfl rfl rfl (by kernel_rfl) (by omega)) rfl ?_
      refine OpsD.take 9 rfl (by kernel_rfl) (by first | exact H | exact H.drop | exact H.drop.drop | exact H.dropL | exact H.drop.dropL | exact H.dropL.dropL) (fun w H => Ev.fieldAddr (o := 3) rfl (by kernel_rfl)) rfl ?_
      refine OpsD.take 10 rfl (by kernel_rfl) (by first | exact H | exact H.drop | exact H.drop.drop | exact H.dropL | exact H.drop.dropL | exact H.dropL.dropL) (fun w H => Ev.load H rfl (by kernel_rfl) hd1.tail.right.right.right) rfl ?_
      refine OpsD.one 11 (by kernel_rfl) (StepD.exT rfl rfl (Ex.call rfl Try.call7 (write_spec s x.page x.data _ b A (by omega) hat.dataB w _ hA hd2.tail.right.right H)) rfl ?_); (try clear H); rintro r w ⟨A, hr, hA, H⟩; rw [e3] at hr; subst hr; rw [e1] at hA; replace H := H.ofA
      refine OpsD.takeU 12 rfl (by kernel_rfl) (fun w => Ev.ifNilEqT rfl Try.underlying25) rfl ?_
      refine OpsD.done (by kernel_rfl) ?_
      repeat refine RunsE.seq ?_
      refine RunsE.yes rfl ?_
      repeat (first | refine RunsE.seq ?_ | refine RunsE.skip ?_ | refine RunsE.block ?_ | refine RunsE.inBlock ?_ | refine RunsE.yes rfl ?_ | refine RunsE.no rfl ?_ | refine RunsE.exit rfl ?_)
      refine RunsE.region ?_
      refine OpsE.ev (Ev.move rfl) rfl ?_
      refine OpsE.ev (Ev.move rfl) rfl ?_
      refine OpsE.ev (Ev.move rfl) rfl ?_
      refine OpsE.ev (Ev.iaSl (n := 36) (sz := 5) (m := i) rfl rfl rfl (by kernel_rfl) (by omega)) rfl ?_
      refine OpsE.ev (Ev.fieldAddr (o := 3) rfl (by kernel_rfl)) rfl ?_
      refine OpsE.ev (Ev.load H rfl (by kernel_rfl) hd1.right.tail.right.right) rfl ?_
      refine OpsE.ex (Ex.buildSl (T := 22) (zv := .slice none 0 0) H rfl (by kernel_rfl) (by kernel_rfl) (by simp [Value.oneCell']) rfl (by omega) (by omega)) rfl ?_; (try clear H); rintro _ w ⟨b107, rfl, H⟩
      refine OpsE.ex (Ex.append (T := 22) (g := gS) (by_ := 24) (zv := .slice none 0 0) (xs := us) (ys := [(ad, x.data.length, cd)]) H.drop rfl rfl hw (Src.row0 H m0 rfl) (fun _ => rfl) (by simp [Value.oneCell']) (by kernel_rfl) (by kernel_rfl) (by kernel_rfl) (by kernel_rfl) rfl (by simp only [List.length_singleton]; omega) (by simp only [List.length_singleton]; omega)) rfl ?_; (try clear H); rintro vw' w ⟨Bw, hw, H⟩
      refine OpsE.ev (Ev.assign rfl) rfl ?_
      refine OpsE.nil ?_
      replace H := H.swapL
      repeat (first | refine RunsE.seq ?_ | refine RunsE.skip ?_ | refine RunsE.block ?_ | refine RunsE.inBlock ?_ | refine RunsE.yes rfl ?_ | refine RunsE.no rfl ?_ | refine RunsE.exit rfl ?_)
      refine RunsE.region ?_
      refine OpsE.ev (Ev.move rfl) rfl ?_
      refine OpsE.ev (Ev.move rfl) rfl ?_
      refine OpsE.ev (Ev.move rfl) rfl ?_
      refine OpsE.ev (Ev.iaSl (n := 36) (sz := 5) (m := i) rfl rfl rfl (by kernel_rfl) (by omega)) rfl ?_
      refine OpsE.ev (Ev.fieldAddr (o := 1) rfl (by kernel_rfl)) rfl ?_
      refine OpsE.ev (Ev.load H rfl (by kernel_rfl) hpage.right.tail.right.right) rfl ?_
      refine OpsE.ex (Ex.buildSl (T := 3) (zv := .int .i64 0) H rfl (by kernel_rfl) (by kernel_rfl) (by simp [Value.oneCell']) rfl (by omega) (by omega)) rfl ?_; (try clear H); rintro _ w ⟨b115, rfl, H⟩
      refine OpsE.ex (Ex.append (T := 3) (g := gI) (by_ := 8) (zv := .int .i64 0) (xs := s.Q.map fun q => (q.1 : Int)) (ys := [x.page]) H.drop rfl rfl hh (Src.row0 H m0 rfl) (fun _ => rfl) (by simp [Value.oneCell']) (by kernel_rfl) (by kernel_rfl) (by kernel_rfl) (by kernel_rfl) rfl (by simp only [List.length_singleton, List.length_map]; omega) (by simp only [List.length_singleton, List.length_map]; omega)) rfl ?_; (try clear H); rintro vh' w ⟨Bh, hh, H⟩
      refine OpsE.ev (Ev.assign rfl) rfl ?_
      refine OpsE.nil ?_
      replace H := H.swapL
      repeat (first | refine RunsE.seq ?_ | refine RunsE.skip ?_ | refine RunsE.block ?_ | refine RunsE.inBlock ?_ | refine RunsE.yes rfl ?_ | refine RunsE.no rfl ?_ | refine RunsE.exit rfl ?_)
      refine RunsE.region ?_
      refine OpsE.ev (Ev.move rfl) rfl ?_
      refine OpsE.ev (Ev.add rfl rfl) rfl ?_
      refine OpsE.ev (Ev.assign rfl) rfl ?_
      refine OpsE.nil ?_
      refine nextL (i + 1, vw', vh') _ _ (by simp only; omega) ⟨by simp only; omega, s.push p x.data, A, us ++ [(ad, x.data.length, cd)], Bw, Bh, hc', hsP, hA, hw, hu.push hd2, ?_, H⟩ ⟨rfl, rfl, rfl, rfl, rfl, rfl, rfl, trivial⟩
      simp only [St.push, List.map_append, List.map_cons, List.map_nil]
      rw [← hp]
      exact hh
  clear H hA A hc hq
  rintro ⟨vw, vh⟩ w ⟨s, A, us, Bw, Bh, hc, hsP, hA, hw, hu, hh, H⟩
  simp only at hw hh
  have hq := hc.queue
  have hul := hu.len
  obtain ⟨aw, cw, rfl, hcw⟩ := hw.leCap
  obtain ⟨ah, ch, rfl, hch⟩ := hh.leCap
  rw [List.length_map] at hch
  obtain ⟨kept, hkept⟩ : ∃ kept : Nat → Bool, kept = fun i : Nat => zs.contains (i : Int) := ⟨_, rfl⟩
  repeat (first | refine RunsE.seq ?_ | refine RunsE.skip ?_ | refine RunsE.block ?_ | refine RunsE.inBlock ?_ | refine RunsE.yes rfl ?_ | refine RunsE.no rfl ?_ | refine RunsE.exit rfl ?_)
  refine RunsE.region ?_
  refine OpsE.ev (Ev.move rfl) rfl ?_
  refine OpsE.ev (Ev.move rfl) rfl ?_
  refine OpsE.ex (Ex.call rfl Try.call12 (own_spec zs _ hz w _ (Els.sub hvz (fun p hp => by simp [hp]) (fun _ _ h => h)) H)) rfl ?_; (try clear H); rintro vk w ⟨Bz, hk, H⟩; replace H : SL w (A ++ (Bz ++ (Bw ++ (Bh ++ (C :: F))))) := H.perm ((perm_in _ _ _).trans (((perm_in _ _ _).trans (((perm_in _ _ _).trans (List.perm_middle.append_left _)).append_left _)).append_left _))
  refine OpsE.ex (Ex.call rfl Try.call11 (start_spec s zs _ b A (by omega) (by omega) w _ hA (hk.ints hvz.wf) H)) rfl ?_; (try clear H); rw [← hkept]; rintro _ w ⟨A, rfl, hA, H⟩; replace H := H.dropIn
  refine OpsE.nil ?_
  have hst : (s.start kept).Q = [] := rfl
  have hsd : (s.start kept).down = false := rfl
  have hsl : (s.start kept).P.length = 6 := by simp only [St.start, St.settle, setl_len]; exact hc.pages
  have hPP : (s.start kept).P = setl kept s.Q s0.P s.Q.length := by simp only [St.start, St.settle, hsP]
  obtain ⟨G, hG⟩ : ∃ G, G = Bw ++ (Bh ++ (C :: F)) := ⟨_, rfl⟩
  rw [← hG] at H
  have hsafe : ∀ i, i < 6 → Rd G ⟨b10, i, none⟩ (SV (s0.P.getD i [])) := fun i hi => by
    rw [hG, hC]
    refine Rd.right (Rd.right (Rd.mk (.head _) ?_))
    rw [List.getElem?_toArray]
    exact map_getD (by rw [hc0.pages]; exact hi)
  have hin : ∀ {v : Value} {bs : List UInt8}, Inp F v bs → Inp G v bs := fun h => by rw [hG]; exact h.tail.right.right
  have hwE : Els G (fun u (x : SE) => u = .slice x.1 x.2.1 x.2.2) (.slice aw us.length cw) us := by rw [hG]; exact Slc.els (g := fun x : SE => Value.slice x.1 x.2.1 x.2.2) hw
  have hhE : Els G (fun u (x : Int) => u = .int .i64 x) (.slice ah (s.Q.map fun q => (q.1 : Int)).length ch) (s.Q.map fun q => (q.1 : Int)) := by
    rw [hG]; exact Els.sub (Slc.els (L := C :: F) (g := fun x : Int => Value.int .i64 x) hh) (fun _ h => List.mem_append_right _ h) (fun _ _ h => h)
  rw [List.length_map] at hhE
  rw [List.length_map]
  repeat (first | refine RunsE.seq ?_ | refine RunsE.skip ?_ | refine RunsE.block ?_ | refine RunsE.inBlock ?_ | refine RunsE.yes rfl ?_ | refine RunsE.no rfl ?_ | refine RunsE.exit rfl ?_)
  refine RunsE.region ?_
  refine OpsE.ev (Ev.assign rfl) rfl ?_
  refine OpsE.nil ?_
  repeat refine RunsE.seq ?_
  refine RunsE.join (fun _ : Unit => []) (fun _ w => SL w (A ++ G)) (fun next => ?_) ?_
  · refine RunsE.block ?_
    refine RunsE.loop (fun i : Nat => [(7, .pointer (some ⟨b, 0, none⟩)), (10, .pointer (some ⟨b10, 0, none⟩)), (14, .slice aw us.length cw), (15, .slice ah s.Q.length ch), (17, .int .i64 (i : Int))])
      (fun i w => i ≤ 6 ∧ SL w (A ++ G)) (fun i => 6 - i) 0 ⟨rfl, rfl, rfl, rfl, rfl, trivial⟩ ⟨by omega, H⟩ ?_
    clear H
    rintro i w ⟨hi, H⟩ nextL
    by_cases h1 : i = 6
    ·
      repeat (first | refine RunsE.seq ?_ | refine RunsE.skip ?_ | refine RunsE.block ?_ | refine RunsE.inBlock ?_ | refine RunsE.yes rfl ?_ | refine RunsE.no rfl ?_ | refine RunsE.exit rfl ?_)
      refine RunsE.region ?_
      refine OpsE.ev (Ev.move rfl) rfl ?_
      refine OpsE.ev (Ev.lss (r := false) rfl rfl (decide_eq_false (by omega))) rfl ?_
      refine OpsE.nil ?_
      repeat refine RunsE.seq ?_
      refine RunsE.no rfl ?_
      refine RunsE.exit rfl ?_
      exact next () _ _ H trivial
    clear next
    have hi6 : i < 6 := by omega
    obtain ⟨x, hx⟩ : ∃ x, x = (s.start kept).P.getD i [] := ⟨_, rfl⟩
    have hrd : (s.start kept).read (i : Int) = (x, 0) := by
      rw [read_up (by simp only [St.has, Bool.and_eq_true, decide_eq_true_eq]; omega) hsd, Int.toNat_natCast, St.page, hst, hx]
      rfl
    repeat (first | refine RunsE.seq ?_ | refine RunsE.skip ?_ | refine RunsE.block ?_ | refine RunsE.inBlock ?_ | refine RunsE.yes rfl ?_ | refine RunsE.no rfl ?_ | refine RunsE.exit rfl ?_)
    refine RunsE.region ?_
    refine OpsE.ev (Ev.move rfl) rfl ?_
    refine OpsE.ev (Ev.lss (r := true) rfl rfl (decide_eq_true (by omega))) rfl ?_
    refine OpsE.nil ?_
    repeat (first | refine RunsE.seq ?_ | refine RunsE.skip ?_ | refine RunsE.block ?_ | refine RunsE.inBlock ?_ | refine RunsE.yes rfl ?_ | refine RunsE.no rfl ?_ | refine RunsE.exit rfl ?_)
    repeat (first | refine RunsE.seq ?_ | refine RunsE.skip ?_ | refine RunsE.block ?_ | refine RunsE.inBlock ?_ | refine RunsE.yes rfl ?_ | refine RunsE.no rfl ?_ | refine RunsE.exit rfl ?_)
    refine RunsE.region ?_
    refine OpsE.ev (Ev.move rfl) rfl ?_
    refine OpsE.ev (Ev.move rfl) rfl ?_
    refine OpsE.ex (Ex.call rfl Try.call8 (read_spec (s.start kept) (i : Int) b A (by rw [hst]; decide) w _ hA H)) rfl ?_; (try clear H); rw [hrd]; rintro _ w ⟨v, B, rfl, hs, H⟩
    refine OpsE.ev (Ev.move rfl) rfl ?_
    refine OpsE.ev (Ev.extract rfl rfl) rfl ?_
    refine OpsE.ev (Ev.extract rfl rfl) rfl ?_
    refine OpsE.ev (Ev.assign rfl) rfl ?_
    refine OpsE.ev (Ev.assign rfl) rfl ?_
    refine OpsE.nil ?_
    obtain ⟨av, cv, rfl⟩ := hs.len
    repeat (first | refine RunsE.seq ?_ | refine RunsE.skip ?_ | refine RunsE.block ?_ | refine RunsE.inBlock ?_ | refine RunsE.yes rfl ?_ | refine RunsE.no rfl ?_ | refine RunsE.exit rfl ?_)
    refine RunsE.drawS H [] (by kernel_rfl) ?_; (try clear H); intro w H
    refine OpsD.take 0 rfl (by kernel_rfl) (by first | exact H | exact H.drop | exact H.drop.drop | exact H.dropL | exact H.drop.dropL | exact H.dropL.dropL) (fun w H => Ev.move rfl) rfl ?_
    refine OpsD.take 1 rfl (by kernel_rfl) (by first | exact H | exact H.drop | exact H.drop.drop | exact H.dropL | exact H.drop.dropL | exact H.dropL.dropL) (fun w H => Ev.inpStr H rfl hs.inp Try.underlying22 Try.underlying5 Try.underlying9) rfl ?_
    refine OpsD.take 2 rfl (by kernel_rfl) (by first | exact H | exact H.drop | exact H.drop.drop | exact H.dropL | exact H.drop.dropL | exact H.dropL.dropL) (fun w H => Ev.move rfl) rfl ?_
    refine OpsD.take 3 rfl (by kernel_rfl) (by first | exact H | exact H.drop | exact H.drop.drop | exact H.dropL | exact H.drop.dropL | exact H.dropL.dropL) (fun w H => Ev.iaArr (n := 6) (sz := 1) (m := i) rfl rfl rfl (by kernel_rfl) hi6) rfl ?_
    refine OpsD.take 4 rfl (by kernel_rfl) (by first | exact H | exact H.drop | exact H.drop.drop | exact H.dropL | exact H.drop.dropL | exact H.dropL.dropL) (fun w H => Ev.load H rfl (by kernel_rfl) (hsafe i hi6).right.right) rfl ?_
    refine OpsD.take 5 rfl (by kernel_rfl) (by first | exact H | exact H.drop | exact H.drop.drop | exact H.dropL | exact H.drop.dropL | exact H.dropL.dropL) (fun w H => Ev.strEqB (cs := x) (bs := s0.P.getD i []) rfl rfl) rfl ?_
    refine OpsD.take 6 rfl (by kernel_rfl) (by first | exact H | exact H.drop | exact H.drop.drop | exact H.dropL | exact H.drop.dropL | exact H.dropL.dropL) (fun w H => Ev.assign rfl) rfl ?_
    refine OpsD.done (by kernel_rfl) ?_
    repeat (first | refine RunsE.seq ?_ | refine RunsE.skip ?_ | refine RunsE.block ?_ | refine RunsE.inBlock ?_ | refine RunsE.yes rfl ?_ | refine RunsE.no rfl ?_ | refine RunsE.exit rfl ?_)
    refine RunsE.region ?_
    refine OpsE.ev (Ev.assign rfl) rfl ?_
    refine OpsE.nil ?_
    repeat refine RunsE.seq ?_
    refine RunsE.join (fun _ : Unit => [(7, .pointer (some ⟨b, 0, none⟩)), (10, .pointer (some ⟨b10, 0, none⟩)), (14, .slice aw us.length cw), (15, .slice ah s.Q.length ch), (17, .int .i64 (i : Int)), (19, .nilIface), (20, .bool true)])
      (fun _ w => SL w (A ++ G)) (fun next => ?_) ?_
    · refine RunsE.block ?_
      refine RunsE.loop (fun k : Nat × Bool => [(7, .pointer (some ⟨b, 0, none⟩)), (10, .pointer (some ⟨b10, 0, none⟩)), (14, .slice aw us.length cw), (15, .slice ah s.Q.length ch), (17, .int .i64 (i : Int)), (18, .slice av x.length cv), (19, .nilIface), (20, .bool k.2), (21, .int .i64 (k.1 : Int))])
        (fun k w => k.1 ≤ s.Q.length ∧ k.2 = okp s.Q i x (x == s0.P.getD i []) k.1 ∧ SL w (B ++ (A ++ G))) (fun k => s.Q.length - k.1) (0, x == s0.P.getD i []) ⟨rfl, rfl, rfl, rfl, rfl, rfl, rfl, rfl, rfl, trivial⟩ ⟨by simp only; omega, rfl, H⟩ ?_
      clear H
      rintro ⟨k, o⟩ w ⟨hk, ho, H⟩ nextK
      simp only at hk ho
      by_cases h2 : k = s.Q.length
      ·
        repeat (first | refine RunsE.seq ?_ | refine RunsE.skip ?_ | refine RunsE.block ?_ | refine RunsE.inBlock ?_ | refine RunsE.yes rfl ?_ | refine RunsE.no rfl ?_ | refine RunsE.exit rfl ?_)
        refine RunsE.region ?_
        refine OpsE.ev (Ev.move rfl) rfl ?_
        refine OpsE.ev (Ev.move rfl) rfl ?_
        refine OpsE.ev (Ev.lenSl (d := 22) rfl rfl (by kernel_rfl)) rfl ?_
        refine OpsE.ev (Ev.lss (r := false) rfl rfl (decide_eq_false (by simp only; omega))) rfl ?_
        refine OpsE.ev (Ev.move rfl) rfl ?_
        first | (refine OpsE.yes rfl rfl ?_; refine OpsE.ev (Ev.move rfl) rfl ?_) | refine OpsE.no rfl rfl rfl ?_ | refine OpsE.off rfl rfl rfl ?_
        first | (refine OpsE.yes rfl rfl ?_; refine OpsE.ev (Ev.move rfl) rfl ?_) | refine OpsE.no rfl rfl rfl ?_ | refine OpsE.off rfl rfl rfl ?_
        first | (refine OpsE.yes rfl rfl ?_; refine OpsE.ev (Ev.lenSl (d := 3) rfl rfl (by kernel_rfl)) rfl ?_) | refine OpsE.no rfl rfl rfl ?_ | refine OpsE.off rfl rfl rfl ?_
        first | (refine OpsE.yes rfl rfl ?_; refine OpsE.ev (Ev.lss rfl rfl) rfl ?_) | refine OpsE.no rfl rfl rfl ?_ | refine OpsE.off rfl rfl rfl ?_
        refine OpsE.ev ((by first | exact Ev.pickT rfl rfl | exact Ev.pickF rfl rfl)) rfl ?_
        refine OpsE.nil ?_
        repeat refine RunsE.seq ?_
        refine RunsE.no rfl ?_
        refine RunsE.exit rfl ?_
        rw [h2, hx, hPP, okp_setl (by rw [hc0.pages]; exact hi6)] at ho
        subst ho
        exact next () _ _ H.dropL ⟨rfl, rfl, rfl, rfl, rfl, rfl, rfl, trivial⟩
      clear next
      obtain ⟨u, hu1⟩ : ∃ u, us[k]? = some u := ⟨us[k]'(by omega), by simp [show k < us.length by omega]⟩
      have hu2 := hu.el k u hu1
      obtain ⟨bw, ow, _, rfl, hwr, rfl⟩ := hwE.at hu1
      obtain ⟨bh, oh, _, rfl, hhr, rfl⟩ := hhE.at (map_getD (f := fun q : Nat × List UInt8 => (q.1 : Int)) (d := (0, [])) (show k < s.Q.length by omega))
      repeat (first | refine RunsE.seq ?_ | refine RunsE.skip ?_ | refine RunsE.block ?_ | refine RunsE.inBlock ?_ | refine RunsE.yes rfl ?_ | refine RunsE.no rfl ?_ | refine RunsE.exit rfl ?_)
      refine RunsE.region ?_
      refine OpsE.ev (Ev.move rfl) rfl ?_
      refine OpsE.ev (Ev.move rfl) rfl ?_
      refine OpsE.ev (Ev.lenSl (d := 22) rfl rfl (by kernel_rfl)) rfl ?_
      refine OpsE.ev (Ev.lss (r := true) rfl rfl (decide_eq_true (by simp only; omega))) rfl ?_
      refine OpsE.ev (Ev.move rfl) rfl ?_
      first | (refine OpsE.yes rfl rfl ?_; refine OpsE.ev (Ev.move rfl) rfl ?_) | refine OpsE.no rfl rfl rfl ?_ | refine OpsE.off rfl rfl rfl ?_
      first | (refine OpsE.yes rfl rfl ?_; refine OpsE.ev (Ev.move rfl) rfl ?_) | refine OpsE.no rfl rfl rfl ?_ | refine OpsE.off rfl rfl rfl ?_
      first | (refine OpsE.yes rfl rfl ?_; refine OpsE.ev (Ev.lenSl (d := 3) rfl rfl (by kernel_rfl)) rfl ?_) | refine OpsE.no rfl rfl rfl ?_ | refine OpsE.off rfl rfl rfl ?_
      first | (refine OpsE.yes rfl rfl ?_; refine OpsE.ev (Ev.lss (r := true) rfl rfl (decide_eq_true (by simp only; omega))) rfl ?_) | refine OpsE.no rfl rfl rfl ?_ | refine OpsE.off rfl rfl rfl ?_
      refine OpsE.ev ((by first | exact Ev.pickT rfl rfl | exact Ev.pickF rfl rfl)) rfl ?_
      refine OpsE.nil ?_
      repeat (first | refine RunsE.seq ?_ | refine RunsE.skip ?_ | refine RunsE.block ?_ | refine RunsE.inBlock ?_ | refine RunsE.yes rfl ?_ | refine RunsE.no rfl ?_ | refine RunsE.exit rfl ?_)
      cases o with
      | true =>
        repeat (first | refine RunsE.seq ?_ | refine RunsE.skip ?_ | refine RunsE.block ?_ | refine RunsE.inBlock ?_ | refine RunsE.yes rfl ?_ | refine RunsE.no rfl ?_ | refine RunsE.exit rfl ?_)
        refine RunsE.drawS H [] (by kernel_rfl) ?_; (try clear H); intro w H
        refine OpsD.take 0 rfl (by kernel_rfl) (by first | exact H | exact H.drop | exact H.drop.drop | exact H.dropL | exact H.drop.dropL | exact H.dropL.dropL) (fun w H => Ev.move rfl) rfl ?_
        refine OpsD.take 1 rfl (by kernel_rfl) (by first | exact H | exact H.drop | exact H.drop.drop | exact H.dropL | exact H.drop.dropL | exact H.dropL.dropL) (fun w H => Ev.move rfl) rfl ?_
        first | refine OpsD.takeYes 2 rfl (by kernel_rfl) rfl rfl H (fun w H => Ev.move rfl) rfl ?_ | refine OpsD.takeNo 2 rfl (by kernel_rfl) rfl rfl H rfl ?_ | refine OpsD.takeOff 2 rfl (by kernel_rfl) rfl rfl H rfl ?_
        first | refine OpsD.takeYes 3 rfl (by kernel_rfl) rfl rfl H (fun w H => Ev.move rfl) rfl ?_ | refine OpsD.takeNo 3 rfl (by kernel_rfl) rfl rfl H rfl ?_ | refine OpsD.takeOff 3 rfl (by kernel_rfl) rfl rfl H rfl ?_
        first | refine OpsD.takeYes 4 rfl (by kernel_rfl) rfl rfl H (fun w H => Ev.iaSl (n := 3) (sz := 1) rfl rfl rfl (by kernel_rfl) (by omega)) rfl ?_ | refine OpsD.takeNo 4 rfl (by kernel_rfl) rfl rfl H rfl ?_ | refine OpsD.takeOff 4 rfl (by kernel_rfl) rfl rfl H rfl ?_
        first | refine OpsD.takeYes 5 rfl (by kernel_rfl) rfl rfl H (fun w H => Ev.load H rfl (by kernel_rfl) (by first | exact Rd.mk m0 rfl | exact Rd.mk m1 rfl | exact Rd.mk m2 rfl | exact Rd.mk m3 rfl | assumption)) rfl ?_ | refine OpsD.takeNo 5 rfl (by kernel_rfl) rfl rfl H rfl ?_ | refine OpsD.takeOff 5 rfl (by kernel_rfl) rfl rfl H rfl ?_
        first | refine OpsD.takeYes 6 rfl (by kernel_rfl) rfl rfl H (fun w H => Ev.move rfl) rfl ?_ | refine OpsD.takeNo 6 rfl (by kernel_rfl) rfl rfl H rfl ?_ | refine OpsD.takeOff 6 rfl (by kernel_rfl) rfl rfl H rfl ?_
        first | refine OpsD.takeYes 7 rfl (by kernel_rfl) rfl rfl H (fun w H => Ev.eql rfl rfl) rfl ?_ | refine OpsD.takeNo 7 rfl (by kernel_rfl) rfl rfl H rfl ?_ | refine OpsD.takeOff 7 rfl (by kernel_rfl) rfl rfl H rfl ?_
        first | refine OpsD.takeYes 8 rfl (by kernel_rfl) rfl rfl H (fun w H => Ev.move rfl) rfl ?_ | refine OpsD.takeNo 8 rfl (by kernel_rfl) rfl rfl H rfl ?_ | refine OpsD.takeOff 8 rfl (by kernel_rfl) rfl rfl H rfl ?_
        first | refine OpsD.takeYes 9 rfl (by kernel_rfl) rfl rfl H (fun w H => Ev.move rfl) rfl ?_ | refine OpsD.takeNo 9 rfl (by kernel_rfl) rfl rfl H rfl ?_ | refine OpsD.takeOff 9 rfl (by kernel_rfl) rfl rfl H rfl ?_
        first | refine OpsD.takeYes 10 rfl (by kernel_rfl) rfl rfl H (fun w H => Ev.move rfl) rfl ?_ | refine OpsD.takeNo 10 rfl (by kernel_rfl) rfl rfl H rfl ?_ | refine OpsD.takeOff 10 rfl (by kernel_rfl) rfl rfl H rfl ?_
        first | refine OpsD.takeYes 11 rfl (by kernel_rfl) rfl rfl H (fun w H => Ev.iaSl (n := 22) (sz := 1) rfl rfl rfl (by kernel_rfl) (by omega)) rfl ?_ | refine OpsD.takeNo 11 rfl (by kernel_rfl) rfl rfl H rfl ?_ | refine OpsD.takeOff 11 rfl (by kernel_rfl) rfl rfl H rfl ?_
        first | refine OpsD.takeYes 12 rfl (by kernel_rfl) rfl rfl H (fun w H => Ev.load H rfl (by kernel_rfl) (by first | exact Rd.mk m0 rfl | exact Rd.mk m1 rfl | exact Rd.mk m2 rfl | exact Rd.mk m3 rfl | assumption)) rfl ?_ | refine OpsD.takeNo 12 rfl (by kernel_rfl) rfl rfl H rfl ?_ | refine OpsD.takeOff 12 rfl (by kernel_rfl) rfl rfl H rfl ?_
        first | refine OpsD.takeYes 13 rfl (by kernel_rfl) rfl rfl H (fun w H => (?op_convert)) rfl ?_ | refine OpsD.takeNo 13 rfl (by kernel_rfl) rfl rfl H rfl ?_ | refine OpsD.takeOff 13 rfl (by kernel_rfl) rfl rfl H rfl ?_
        first | refine OpsD.takeYes 14 rfl (by kernel_rfl) rfl rfl H (fun w H => Ev.move rfl) rfl ?_ | refine OpsD.takeNo 14 rfl (by kernel_rfl) rfl rfl H rfl ?_ | refine OpsD.takeOff 14 rfl (by kernel_rfl) rfl rfl H rfl ?_
        first | refine OpsD.takeYes 15 rfl (by kernel_rfl) rfl rfl H (fun w H => (?op_convert)) rfl ?_ | refine OpsD.takeNo 15 rfl (by kernel_rfl) rfl rfl H rfl ?_ | refine OpsD.takeOff 15 rfl (by kernel_rfl) rfl rfl H rfl ?_
        first | refine OpsD.takeYes 16 rfl (by kernel_rfl) rfl rfl H (fun w H => (?op_binOp)) rfl ?_ | refine OpsD.takeNo 16 rfl (by kernel_rfl) rfl rfl H rfl ?_ | refine OpsD.takeOff 16 rfl (by kernel_rfl) rfl rfl H rfl ?_
        first | refine OpsD.takeYes 17 rfl (by kernel_rfl) rfl rfl H (fun w H => (by first | exact Ev.pickT rfl rfl | exact Ev.pickF rfl rfl)) rfl ?_ | refine OpsD.takeNo 17 rfl (by kernel_rfl) rfl rfl H rfl ?_ | refine OpsD.takeOff 17 rfl (by kernel_rfl) rfl rfl H rfl ?_
        refine OpsD.take 18 rfl (by kernel_rfl) (by first | exact H | exact H.drop | exact H.drop.drop | exact H.dropL | exact H.drop.dropL | exact H.dropL.dropL) (fun w H => (by first | exact Ev.pickT rfl rfl | exact Ev.pickF rfl rfl)) rfl ?_
        refine OpsD.take 19 rfl (by kernel_rfl) (by first | exact H | exact H.drop | exact H.drop.drop | exact H.dropL | exact H.drop.dropL | exact H.dropL.dropL) (fun w H => Ev.assign rfl) rfl ?_
        refine OpsD.done (by kernel_rfl) ?_
        repeat (first | refine RunsE.seq ?_ | refine RunsE.skip ?_ | refine RunsE.block ?_ | refine RunsE.inBlock ?_ | refine RunsE.yes rfl ?_ | refine RunsE.no rfl ?_ | refine RunsE.exit rfl ?_)
        refine RunsE.region ?_
        refine OpsE.ev (Ev.move rfl) rfl ?_
        refine OpsE.ev (Ev.add rfl rfl) rfl ?_
        refine OpsE.ev (Ev.assign rfl) rfl ?_
        refine OpsE.nil ?_
        refine nextK (k + 1, true) _ _ (by simp only; omega) ⟨by simp only; omega, ?_, H⟩ ⟨rfl, rfl, rfl, rfl, rfl, rfl, rfl, rfl, rfl, trivial⟩
        simp only [okp]
        rw [← ho]
        rfl
      | false =>
        by_cases h3 : (s.Q.getD k (0, [])).1 = i
        ·
          repeat (first | refine RunsE.seq ?_ | refine RunsE.skip ?_ | refine RunsE.block ?_ | refine RunsE.inBlock ?_ | refine RunsE.yes rfl ?_ | refine RunsE.no rfl ?_ | refine RunsE.exit rfl ?_)
          refine RunsE.drawS H [] (by kernel_rfl) ?_; (try clear H); intro w H
          refine OpsD.take 0 rfl (by kernel_rfl) (by first | exact H | exact H.drop | exact H.drop.drop | exact H.dropL | exact H.drop.dropL | exact H.dropL.dropL) (fun w H => Ev.move rfl) rfl ?_
          refine OpsD.take 1 rfl (by kernel_rfl) (by first | exact H | exact H.drop | exact H.drop.drop | exact H.dropL | exact H.drop.dropL | exact H.dropL.dropL) (fun w H => Ev.move rfl) rfl ?_
          first | refine OpsD.takeYes 2 rfl (by kernel_rfl) rfl rfl H (fun w H => Ev.move rfl) rfl ?_ | refine OpsD.takeNo 2 rfl (by kernel_rfl) rfl rfl H rfl ?_ | refine OpsD.takeOff 2 rfl (by kernel_rfl) rfl rfl H rfl ?_
          first | refine OpsD.takeYes 3 rfl (by kernel_rfl) rfl rfl H (fun w H => Ev.move rfl) rfl ?_ | refine OpsD.takeNo 3 rfl (by kernel_rfl) rfl rfl H rfl ?_ | refine OpsD.takeOff 3 rfl (by kernel_rfl) rfl rfl H rfl ?_
          first | refine OpsD.takeYes 4 rfl (by kernel_rfl) rfl rfl H (fun w H => Ev.iaSl (n := 3) (sz := 1) (m := k) (o := oh + k) rfl rfl rfl (by kernel_rfl) (by omega) (by omega)) rfl ?_ | refine OpsD.takeNo 4 rfl (by kernel_rfl) rfl rfl H rfl ?_ | refine OpsD.takeOff 4 rfl (by kernel_rfl) rfl rfl H rfl ?_
          first | refine OpsD.takeYes 5 rfl (by kernel_rfl) rfl rfl H (fun w H => Ev.load H rfl (by kernel_rfl) hhr.right.right) rfl ?_ | refine OpsD.takeNo 5 rfl (by kernel_rfl) rfl rfl H rfl ?_ | refine OpsD.takeOff 5 rfl (by kernel_rfl) rfl rfl H rfl ?_
          first | refine OpsD.takeYes 6 rfl (by kernel_rfl) rfl rfl H (fun w H => Ev.move rfl) rfl ?_ | refine OpsD.takeNo 6 rfl (by kernel_rfl) rfl rfl H rfl ?_ | refine OpsD.takeOff 6 rfl (by kernel_rfl) rfl rfl H rfl ?_
          first | refine OpsD.takeYes 7 rfl (by kernel_rfl) rfl rfl H (fun w H => Ev.eql (r := true) rfl rfl (beq_iff_eq.2 (by omega))) rfl ?_ | refine OpsD.takeNo 7 rfl (by kernel_rfl) rfl rfl H rfl ?_ | refine OpsD.takeOff 7 rfl (by kernel_rfl) rfl rfl H rfl ?_
          first | refine OpsD.takeYes 8 rfl (by kernel_rfl) rfl rfl H (fun w H => Ev.move rfl) rfl ?_ | refine OpsD.takeNo 8 rfl (by kernel_rfl) rfl rfl H rfl ?_ | refine OpsD.takeOff 8 rfl (by kernel_rfl) rfl rfl H rfl ?_
          first | refine OpsD.takeYes 9 rfl (by kernel_rfl) rfl rfl H (fun w H => Ev.move rfl) rfl ?_ | refine OpsD.takeNo 9 rfl (by kernel_rfl) rfl rfl H rfl ?_ | refine OpsD.takeOff 9 rfl (by kernel_rfl) rfl rfl H rfl ?_
          first | refine OpsD.takeYes 10 rfl (by kernel_rfl) rfl rfl H (fun w H => Ev.move rfl) rfl ?_ | refine OpsD.takeNo 10 rfl (by kernel_rfl) rfl rfl H rfl ?_ | refine OpsD.takeOff 10 rfl (by kernel_rfl) rfl rfl H rfl ?_
          first | refine OpsD.takeYes 11 rfl (by kernel_rfl) rfl rfl H (fun w H => Ev.iaSl (n := 22) (sz := 1) (m := k) (o := ow + k) rfl rfl rfl (by kernel_rfl) (by omega) (by omega)) rfl ?_ | refine OpsD.takeNo 11 rfl (by kernel_rfl) rfl rfl H rfl ?_ | refine OpsD.takeOff 11 rfl (by kernel_rfl) rfl rfl H rfl ?_
          first | refine OpsD.takeYes 12 rfl (by kernel_rfl) rfl rfl H (fun w H => Ev.load H rfl (by kernel_rfl) hwr.right.right) rfl ?_ | refine OpsD.takeNo 12 rfl (by kernel_rfl) rfl rfl H rfl ?_ | refine OpsD.takeOff 12 rfl (by kernel_rfl) rfl rfl H rfl ?_
          first | refine OpsD.takeYes 13 rfl (by kernel_rfl) rfl rfl H (fun w H => Ev.inpStr H rfl (hin hu2).right.right Try.underlying22 Try.underlying5 Try.underlying9) rfl ?_ | refine OpsD.takeNo 13 rfl (by kernel_rfl) rfl rfl H rfl ?_ | refine OpsD.takeOff 13 rfl (by kernel_rfl) rfl rfl H rfl ?_
          first | refine OpsD.takeYes 14 rfl (by kernel_rfl) rfl rfl H (fun w H => Ev.move rfl) rfl ?_ | refine OpsD.takeNo 14 rfl (by kernel_rfl) rfl rfl H rfl ?_ | refine OpsD.takeOff 14 rfl (by kernel_rfl) rfl rfl H rfl ?_
          first | refine OpsD.takeYes 15 rfl (by kernel_rfl) rfl rfl H (fun w H => Ev.inpStr H rfl hs.inp Try.underlying22 Try.underlying5 Try.underlying9) rfl ?_ | refine OpsD.takeNo 15 rfl (by kernel_rfl) rfl rfl H rfl ?_ | refine OpsD.takeOff 15 rfl (by kernel_rfl) rfl rfl H rfl ?_
          first | refine OpsD.takeYes 16 rfl (by kernel_rfl) rfl rfl H (fun w H => Ev.strEqB (cs := (s.Q.getD k (0, [])).2) (bs := x) rfl rfl) rfl ?_ | refine OpsD.takeNo 16 rfl (by kernel_rfl) rfl rfl H rfl ?_ | refine OpsD.takeOff 16 rfl (by kernel_rfl) rfl rfl H rfl ?_
          first | refine OpsD.takeYes 17 rfl (by kernel_rfl) rfl rfl H (fun w H => (by first | exact Ev.pickT rfl rfl | exact Ev.pickF rfl rfl)) rfl ?_ | refine OpsD.takeNo 17 rfl (by kernel_rfl) rfl rfl H rfl ?_ | refine OpsD.takeOff 17 rfl (by kernel_rfl) rfl rfl H rfl ?_
          refine OpsD.take 18 rfl (by kernel_rfl) (by first | exact H | exact H.drop | exact H.drop.drop | exact H.dropL | exact H.drop.dropL | exact H.dropL.dropL) (fun w H => (by first | exact Ev.pickT rfl rfl | exact Ev.pickF rfl rfl)) rfl ?_
          refine OpsD.take 19 rfl (by kernel_rfl) (by first | exact H | exact H.drop | exact H.drop.drop | exact H.dropL | exact H.drop.dropL | exact H.dropL.dropL) (fun w H => Ev.assign rfl) rfl ?_
          refine OpsD.done (by kernel_rfl) ?_
          repeat (first | refine RunsE.seq ?_ | refine RunsE.skip ?_ | refine RunsE.block ?_ | refine RunsE.inBlock ?_ | refine RunsE.yes rfl ?_ | refine RunsE.no rfl ?_ | refine RunsE.exit rfl ?_)
          refine RunsE.region ?_
          refine OpsE.ev (Ev.move rfl) rfl ?_
          refine OpsE.ev (Ev.add rfl rfl) rfl ?_
          refine OpsE.ev (Ev.assign rfl) rfl ?_
          refine OpsE.nil ?_
          refine nextK (k + 1, (s.Q.getD k (0, [])).2 == x) _ _ (by simp only; omega) ⟨by simp only; omega, ?_, H⟩ ⟨rfl, rfl, rfl, rfl, rfl, rfl, rfl, rfl, rfl, trivial⟩
          simp only [okp]
          rw [← ho, h3]
          simp
        ·
          repeat (first | refine RunsE.seq ?_ | refine RunsE.skip ?_ | refine RunsE.block ?_ | refine RunsE.inBlock ?_ | refine RunsE.yes rfl ?_ | refine RunsE.no rfl ?_ | refine RunsE.exit rfl ?_)
          refine RunsE.drawS H [] (by kernel_rfl) ?_; (try clear H); intro w H
          refine OpsD.take 0 rfl (by kernel_rfl) (by first | exact H | exact H.drop | exact H.drop.drop | exact H.dropL | exact H.drop.dropL | exact H.dropL.dropL) (fun w H => Ev.move rfl) rfl ?_
          refine OpsD.take 1 rfl (by kernel_rfl) (by first | exact H | exact H.drop | exact H.drop.drop | exact H.dropL | exact H.drop.dropL | exact H.dropL.dropL) (fun w H => Ev.move rfl) rfl ?_
          first | refine OpsD.takeYes 2 rfl (by kernel_rfl) rfl rfl H (fun w H => Ev.move rfl) rfl ?_ | refine OpsD.takeNo 2 rfl (by kernel_rfl) rfl rfl H rfl ?_ | refine OpsD.takeOff 2 rfl (by kernel_rfl) rfl rfl H rfl ?_
          first | refine OpsD.takeYes 3 rfl (by kernel_rfl) rfl rfl H (fun w H => Ev.move rfl) rfl ?_ | refine OpsD.takeNo 3 rfl (by kernel_rfl) rfl rfl H rfl ?_ | refine OpsD.takeOff 3 rfl (by kernel_rfl) rfl rfl H rfl ?_
          first | refine OpsD.takeYes 4 rfl (by kernel_rfl) rfl rfl H (fun w H => Ev.iaSl (n := 3) (sz := 1) (m := k) (o := oh + k) rfl rfl rfl (by kernel_rfl) (by omega) (by omega)) rfl ?_ | refine OpsD.takeNo 4 rfl (by kernel_rfl) rfl rfl H rfl ?_ | refine OpsD.takeOff 4 rfl (by kernel_rfl) rfl rfl H rfl ?_
          first | refine OpsD.takeYes 5 rfl (by kernel_rfl) rfl rfl H (fun w H => Ev.load H rfl (by kernel_rfl) hhr.right.right) rfl ?_ | refine OpsD.takeNo 5 rfl (by kernel_rfl) rfl rfl H rfl ?_ | refine OpsD.takeOff 5 rfl (by kernel_rfl) rfl rfl H rfl ?_
          first | refine OpsD.takeYes 6 rfl (by kernel_rfl) rfl rfl H (fun w H => Ev.move rfl) rfl ?_ | refine OpsD.takeNo 6 rfl (by kernel_rfl) rfl rfl H rfl ?_ | refine OpsD.takeOff 6 rfl (by kernel_rfl) rfl rfl H rfl ?_
          first | refine OpsD.takeYes 7 rfl (by kernel_rfl) rfl rfl H (fun w H => Ev.eql (r := false) rfl rfl (beq_eq_false_iff_ne.2 (by omega))) rfl ?_ | refine OpsD.takeNo 7 rfl (by kernel_rfl) rfl rfl H rfl ?_ | refine OpsD.takeOff 7 rfl (by kernel_rfl) rfl rfl H rfl ?_
          first | refine OpsD.takeYes 8 rfl (by kernel_rfl) rfl rfl H (fun w H => Ev.move rfl) rfl ?_ | refine OpsD.takeNo 8 rfl (by kernel_rfl) rfl rfl H rfl ?_ | refine OpsD.takeOff 8 rfl (by kernel_rfl) rfl rfl H rfl ?_
          first | refine OpsD.takeYes 9 rfl (by kernel_rfl) rfl rfl H (fun w H => Ev.move rfl) rfl ?_ | refine OpsD.takeNo 9 rfl (by kernel_rfl) rfl rfl H rfl ?_ | refine OpsD.takeOff 9 rfl (by kernel_rfl) rfl rfl H rfl ?_
          first | refine OpsD.takeYes 10 rfl (by kernel_rfl) rfl rfl H (fun w H => Ev.move rfl) rfl ?_ | refine OpsD.takeNo 10 rfl (by kernel_rfl) rfl rfl H rfl ?_ | refine OpsD.takeOff 10 rfl (by kernel_rfl) rfl rfl H rfl ?_
          first | refine OpsD.takeYes 11 rfl (by kernel_rfl) rfl rfl H (fun w H => Ev.iaSl (n := 22) (sz := 1) rfl rfl rfl (by kernel_rfl) (by omega)) rfl ?_ | refine OpsD.takeNo 11 rfl (by kernel_rfl) rfl rfl H rfl ?_ | refine OpsD.takeOff 11 rfl (by kernel_rfl) rfl rfl H rfl ?_
          first | refine OpsD.takeYes 12 rfl (by kernel_rfl) rfl rfl H (fun w H => Ev.load H rfl (by kernel_rfl) (by first | exact Rd.mk m0 rfl | exact Rd.mk m1 rfl | exact Rd.mk m2 rfl | exact Rd.mk m3 rfl | assumption)) rfl ?_ | refine OpsD.takeNo 12 rfl (by kernel_rfl) rfl rfl H rfl ?_ | refine OpsD.takeOff 12 rfl (by kernel_rfl) rfl rfl H rfl ?_
          first | refine OpsD.takeYes 13 rfl (by kernel_rfl) rfl rfl H (fun w H => (?op_convert)) rfl ?_ | refine OpsD.takeNo 13 rfl (by kernel_rfl) rfl rfl H rfl ?_ | refine OpsD.takeOff 13 rfl (by kernel_rfl) rfl rfl H rfl ?_
          first | refine OpsD.takeYes 14 rfl (by kernel_rfl) rfl rfl H (fun w H => Ev.move rfl) rfl ?_ | refine OpsD.takeNo 14 rfl (by kernel_rfl) rfl rfl H rfl ?_ | refine OpsD.takeOff 14 rfl (by kernel_rfl) rfl rfl H rfl ?_
          first | refine OpsD.takeYes 15 rfl (by kernel_rfl) rfl rfl H (fun w H => (?op_convert)) rfl ?_ | refine OpsD.takeNo 15 rfl (by kernel_rfl) rfl rfl H rfl ?_ | refine OpsD.takeOff 15 rfl (by kernel_rfl) rfl rfl H rfl ?_
          first | refine OpsD.takeYes 16 rfl (by kernel_rfl) rfl rfl H (fun w H => (?op_binOp)) rfl ?_ | refine OpsD.takeNo 16 rfl (by kernel_rfl) rfl rfl H rfl ?_ | refine OpsD.takeOff 16 rfl (by kernel_rfl) rfl rfl H rfl ?_
          first | refine OpsD.takeYes 17 rfl (by kernel_rfl) rfl rfl H (fun w H => (by first | exact Ev.pickT rfl rfl | exact Ev.pickF rfl rfl)) rfl ?_ | refine OpsD.takeNo 17 rfl (by kernel_rfl) rfl rfl H rfl ?_ | refine OpsD.takeOff 17 rfl (by kernel_rfl) rfl rfl H rfl ?_
          refine OpsD.take 18 rfl (by kernel_rfl) (by first | exact H | exact H.drop | exact H.drop.drop | exact H.dropL | exact H.drop.dropL | exact H.dropL.dropL) (fun w H => (by first | exact Ev.pickT rfl rfl | exact Ev.pickF rfl rfl)) rfl ?_
          refine OpsD.take 19 rfl (by kernel_rfl) (by first | exact H | exact H.drop | exact H.drop.drop | exact H.dropL | exact H.drop.dropL | exact H.dropL.dropL) (fun w H => Ev.assign rfl) rfl ?_
          refine OpsD.done (by kernel_rfl) ?_
          repeat (first | refine RunsE.seq ?_ | refine RunsE.skip ?_ | refine RunsE.block ?_ | refine RunsE.inBlock ?_ | refine RunsE.yes rfl ?_ | refine RunsE.no rfl ?_ | refine RunsE.exit rfl ?_)
          refine RunsE.region ?_
          refine OpsE.ev (Ev.move rfl) rfl ?_
          refine OpsE.ev (Ev.add rfl rfl) rfl ?_
          refine OpsE.ev (Ev.assign rfl) rfl ?_
          refine OpsE.nil ?_
          refine nextK (k + 1, false) _ _ (by simp only; omega) ⟨by simp only; omega, ?_, H⟩ ⟨rfl, rfl, rfl, rfl, rfl, rfl, rfl, rfl, rfl, trivial⟩
          simp only [okp]
          rw [← ho, show ((s.Q.getD k (0, [])).1 == i) = false from beq_eq_false_iff_ne.2 h3]
          rfl
    clear H
    rintro _ w H
    repeat (first | refine RunsE.seq ?_ | refine RunsE.skip ?_ | refine RunsE.block ?_ | refine RunsE.inBlock ?_ | refine RunsE.yes rfl ?_ | refine RunsE.no rfl ?_ | refine RunsE.exit rfl ?_)
    refine RunsE.region ?_
    refine OpsE.ev (Ev.move rfl) rfl ?_
    refine OpsE.ev (Ev.ifNilNeF rfl Try.underlying25) rfl ?_
    refine OpsE.ev (Ev.move rfl) rfl ?_
    first | (refine OpsE.yes rfl rfl ?_; refine OpsE.ev (Ev.move rfl) rfl ?_) | refine OpsE.no rfl rfl rfl ?_ | refine OpsE.off rfl rfl rfl ?_
    first | (refine OpsE.yes rfl rfl ?_; refine OpsE.ev (Ev.not rfl) rfl ?_) | refine OpsE.no rfl rfl rfl ?_ | refine OpsE.off rfl rfl rfl ?_
    refine OpsE.ev ((by first | exact Ev.pickT rfl rfl | exact Ev.pickF rfl rfl)) rfl ?_
    refine OpsE.nil ?_
    repeat (first | refine RunsE.seq ?_ | refine RunsE.skip ?_ | refine RunsE.block ?_ | refine RunsE.inBlock ?_ | refine RunsE.yes rfl ?_ | refine RunsE.no rfl ?_ | refine RunsE.exit rfl ?_)
    refine RunsE.region ?_
    refine OpsE.ev (Ev.move rfl) rfl ?_
    refine OpsE.ev (Ev.add rfl rfl) rfl ?_
    refine OpsE.ev (Ev.assign rfl) rfl ?_
    refine OpsE.nil ?_
    exact nextL (i + 1) _ _ (by omega) ⟨by omega, H⟩ ⟨rfl, rfl, rfl, rfl, rfl, trivial⟩
  clear H
  rintro _ w H
  repeat (first | refine RunsE.seq ?_ | refine RunsE.skip ?_ | refine RunsE.block ?_ | refine RunsE.inBlock ?_ | refine RunsE.yes rfl ?_ | refine RunsE.no rfl ?_ | refine RunsE.exit rfl ?_)
  refine RunsE.region ?_
  refine OpsE.ex (Ex.call rfl Try.call6 (sure_spec w _ H)) rfl ?_; (try clear H); rintro _ w ⟨rfl, H⟩
  refine OpsE.ev (Ev.assign rfl) rfl ?_
  refine OpsE.nil ?_
  repeat (first | refine RunsE.seq ?_ | refine RunsE.skip ?_ | refine RunsE.block ?_ | refine RunsE.inBlock ?_ | refine RunsE.yes rfl ?_ | refine RunsE.no rfl ?_ | refine RunsE.exit rfl ?_)
  refine RunsE.ret1 Try.func4 rfl rfl ⟨rfl, ?_⟩
  rw [hG] at H
  exact H.dropL.dropL.dropL.drop

end Go.Proofs.Ytoiehgiokfnmkaa
