/-
  The book: Clone.
-/
import Derived.Test.YtniihnncgblocaaDoorVRan
import Derived.Test.YtniihnncgblocaaDoorOathRuns
namespace Go.Proofs.YtniihnncgblocaaDoor.V

/-- An entry of the copy: its own row, or still the other's. -/
def PartR (T : TypeId) (seen : List Nat) (X : List (Nat × Obj)) (e : Ent) (p : Hash × List Nat) (B : List (Nat × Obj)) : Prop :=
  e.1 = p.1.1 ∧ ((e.2.2 ∈ seen ∧ Slc gW 1 T e.2.1 p.2 B) ∨ (e.2.2 ∉ seen ∧ B = [] ∧ RdS X 1 e.2.1 p.2.length (p.2.flatMap gW)))

section
variable {P : Program} {w : World} {e : Env} {ty t : TypeId} {x y : Operand}
/-- A book's literal. -/
theorem Ev.buildBook {m : Nat} {us : List Value} (hx : e.val x = some (.map (some m))) (hy : e.val y = some (.agg us.toArray)) (hul : us.length = 16) (ht : structT P t = some [(0, 1), (1, 16)]) (hz : zeroT P t = some (.agg (.map none :: List.replicate 16 (.slice none 0 0)).toArray)) :
    Ev P w e (.build t #[(0, x), (1, y)]) ty (.agg (.map (some m) :: us).toArray) := by
  refine Ev.buildSt (l := [(0, x), (1, y)]) (ps := [(0, .map (some m)), (1, .agg us.toArray)]) (pl := [(0, 1), (1, 16)]) (by simp [Env.partsI, hx, hy]) ht hz ?_
  unfold fillP
  simp only [Value.cells, List.getElem?_cons_zero, List.size_toArray, List.length_cons, List.length_replicate, List.length_nil]
  rw [if_pos (by constructor <;> simp)]
  unfold fillP
  have e1 : putAt (.map none :: List.replicate 16 (Value.slice none 0 0)).toArray 0 [Value.map (some m)] = (.map (some m) :: List.replicate 16 (Value.slice none 0 0)).toArray := by
    simp [putAt]
  have e2 : putAt (.map (some m) :: List.replicate 16 (Value.slice none 0 0)).toArray 1 us = (.map (some m) :: us).toArray := by
    have := putAt_append (pre := [Value.map (some m)]) (mid := List.replicate 16 (Value.slice none 0 0)) (post := []) (vs := us) (off := 1) rfl (by rw [hul]; simp)
    simpa using this
  simp only [Value.cells, List.getElem?_cons_succ, List.getElem?_cons_zero, List.size_toArray, hul, e1, List.length_cons, List.length_replicate]
  rw [if_pos (by constructor <;> simp)]
  unfold fillP
  rw [e2]
end

theorem set_app {α : Type} {l1 l2 : List α} {a b : α} {i : Nat} (h : l1.length = i) : (l1 ++ a :: l2).set i b = l1 ++ b :: l2 := by
  subst h
  simp

end Go.Proofs.YtniihnncgblocaaDoor.V
namespace Go.Proofs.YtniihnncgblocaaDoor
open Go.Proofs.YtniihnncgblocaaDoor.V

theorem mclone_spec [Strm] (m clock : Nat) (es : List Ent) (w : World) (X : List (Nat × Obj)) (hm : (m, mapO es clock) ∈ X) (H : SL w X) : Does Tryd.prog 31 #[.map (some m)] w fun r w' => ∃ m2, r = .map (some m2) ∧ SL w' ((m2, mapO es clock) :: X) := by
  refine Does.intro (args := [_]) (e := [(0, _)]) Tryd.func31 rfl Tryd.ntmps31 rfl rfl ?_
  repeat (first | refine RunsE.seq ?_ | refine RunsE.skip ?_ | refine RunsE.block ?_ | refine RunsE.inBlock ?_ | refine RunsE.yes rfl ?_ | refine RunsE.no rfl ?_ | refine RunsE.exit rfl ?_)
  repeat (first | refine RunsE.seq ?_ | refine RunsE.skip ?_ | refine RunsE.block ?_ | refine RunsE.inBlock ?_ | refine RunsE.yes rfl ?_ | refine RunsE.no rfl ?_ | refine RunsE.exit rfl ?_)
  refine RunsE.region ?_
  refine OpsE.ev (Ev.assign rfl) rfl ?_
  refine OpsE.nil ?_
  repeat (first | refine RunsE.seq ?_ | refine RunsE.skip ?_ | refine RunsE.block ?_ | refine RunsE.inBlock ?_ | refine RunsE.yes rfl ?_ | refine RunsE.no rfl ?_ | refine RunsE.exit rfl ?_)
  refine RunsE.region ?_
  refine OpsE.ev (Ev.move rfl) rfl ?_
  refine OpsE.ev (Ev.mapNilEq (m := some m) rfl rfl Tryd.underlying55) rfl ?_
  refine OpsE.nil ?_
  repeat (first | refine RunsE.seq ?_ | refine RunsE.skip ?_ | refine RunsE.block ?_ | refine RunsE.inBlock ?_ | refine RunsE.yes rfl ?_ | refine RunsE.no rfl ?_ | refine RunsE.exit rfl ?_)
  refine RunsE.region ?_
  refine OpsE.ev (Ev.move rfl) rfl ?_
  refine OpsE.ev (Ev.makeInterface (d := .map 25 23) rfl Tryd.underlying55 rfl) rfl ?_
  refine OpsE.ex (Ex.copyMap H rfl hm Tryd.func40 (by kernel_rfl) (by kernel_rfl) (by kernel_rfl) (by kernel_rfl)) rfl ?_; (try clear H); rintro _ w ⟨m2, rfl, H⟩
  refine OpsE.ev (Ev.assertIs (d := .map 25 23) rfl Tryd.underlying55 rfl) rfl ?_
  refine OpsE.ev (Ev.assign rfl) rfl ?_
  refine OpsE.nil ?_
  repeat (first | refine RunsE.seq ?_ | refine RunsE.skip ?_ | refine RunsE.block ?_ | refine RunsE.inBlock ?_ | refine RunsE.yes rfl ?_ | refine RunsE.no rfl ?_ | refine RunsE.exit rfl ?_)
  exact RunsE.ret1 Tryd.func31 rfl rfl ⟨m2, rfl, H⟩

/-- The copy, on the way. -/
structure Copying [Strm] (es : List Ent) (hs : List (Hash × List Nat)) (us : List Value) (X : List (Nat × Obj)) (c m2 r clock : Nat) (es' : List Ent) (seen : List Nat) (w : World) : Prop where
  of :: ex : ∃ Cx, Many (PartR 3 seen X) es' hs Cx ∧ es'.map (·.1) = es.map (·.1) ∧ es'.map (·.2.2) = es.map (·.2.2) ∧ SL w ((r, iterO m2 clock seen clock) :: (c, bookO m2 us) :: (m2, mapO es' clock) :: (Cx ++ X))

set_option maxHeartbeats 4000000 in
theorem clone_spec [Strm] (b : Nat) (L : List Sg) (hlen : L.length ≤ 1000) (A : List (Nat × Obj)) (w : World) (F : List (Nat × Obj)) (hA : BookH b L A) (H : SL w (A ++ F)) :
    Does Tryd.prog 16 #[.pointer (some ⟨b, 0, none⟩)] w fun r w' => ∃ c A', r = .pointer (some ⟨c, 0, none⟩) ∧ BookH c L A' ∧ SL w' (A' ++ (A ++ F)) := by
  cases hA with
  | mk m clock es us hs C D hes hus hd hw hall hb =>
    have hul : us.length = 16 := by rw [hus.length, List.length_map, List.length_range]
    refine Does.intro (args := [_]) (e := [(0, _)]) Tryd.func16 rfl Tryd.ntmps16 rfl rfl ?_
    repeat (first | refine RunsE.seq ?_ | refine RunsE.skip ?_ | refine RunsE.block ?_ | refine RunsE.inBlock ?_ | refine RunsE.yes rfl ?_ | refine RunsE.no rfl ?_ | refine RunsE.exit rfl ?_)
    repeat (first | refine RunsE.seq ?_ | refine RunsE.skip ?_ | refine RunsE.block ?_ | refine RunsE.inBlock ?_ | refine RunsE.yes rfl ?_ | refine RunsE.no rfl ?_ | refine RunsE.exit rfl ?_)
    refine RunsE.region ?_
    refine OpsE.ev (Ev.assign rfl) rfl ?_
    refine OpsE.nil ?_
    repeat (first | refine RunsE.seq ?_ | refine RunsE.skip ?_ | refine RunsE.block ?_ | refine RunsE.inBlock ?_ | refine RunsE.yes rfl ?_ | refine RunsE.no rfl ?_ | refine RunsE.exit rfl ?_)
    refine RunsE.region ?_
    refine OpsE.ev (Ev.move rfl) rfl ?_
    refine OpsE.ev (Ev.ptrNilEq (el := 58) rfl rfl (by kernel_rfl)) rfl ?_
    refine OpsE.nil ?_
    repeat (first | refine RunsE.seq ?_ | refine RunsE.skip ?_ | refine RunsE.block ?_ | refine RunsE.inBlock ?_ | refine RunsE.yes rfl ?_ | refine RunsE.no rfl ?_ | refine RunsE.exit rfl ?_)
    obtain ⟨X, hX⟩ : ∃ X, X = (b, bookO m us) :: (m, mapO es clock) :: (C ++ D) ++ F := ⟨_, rfl⟩
    have hmX : (m, mapO es clock) ∈ X := by rw [hX]; simp
    have hbX : (b, bookO m us) ∈ X := by rw [hX]; simp
    have hCX : ∀ p ∈ C, p ∈ X := fun p hp => by rw [hX]; simp [hp]
    have hDX : ∀ p ∈ D, p ∈ X := fun p hp => by rw [hX]; simp [hp]
    rw [← hX] at H ⊢
    repeat (first | refine RunsE.seq ?_ | refine RunsE.skip ?_ | refine RunsE.block ?_ | refine RunsE.inBlock ?_ | refine RunsE.yes rfl ?_ | refine RunsE.no rfl ?_ | refine RunsE.exit rfl ?_)
    refine RunsE.drawS H [] (by kernel_rfl) ?_; (try clear H); intro w H
    refine OpsD.take 0 rfl (by kernel_rfl) (by first | exact H | exact H.drop | exact H.drop.drop | exact H.dropL | exact H.drop.dropL | exact H.dropL.drop | exact H.dropL.dropL | exact H.dropMid) (fun w H => Ev.move rfl) rfl ?_
    refine OpsD.take 1 rfl (by kernel_rfl) (by first | exact H | exact H.drop | exact H.drop.drop | exact H.dropL | exact H.drop.dropL | exact H.dropL.drop | exact H.dropL.dropL | exact H.dropMid) (fun w H => Ev.nilCheck rfl) rfl ?_
    refine OpsD.take 2 rfl (by kernel_rfl) (by first | exact H | exact H.drop | exact H.drop.drop | exact H.dropL | exact H.drop.dropL | exact H.dropL.drop | exact H.dropL.dropL | exact H.dropMid) (fun w H => Ev.fieldAddr (o := 0) rfl (by kernel_rfl)) rfl ?_
    refine OpsD.take 3 rfl (by kernel_rfl) (by first | exact H | exact H.drop | exact H.drop.drop | exact H.dropL | exact H.drop.dropL | exact H.dropL.drop | exact H.dropL.dropL | exact H.dropMid) (fun w H => Ev.load (v := .map (some m)) H rfl (by kernel_rfl) (Rd.mk hbX rfl)) rfl ?_
    refine OpsD.take 5 rfl (by kernel_rfl) (by first | exact H | exact H.drop | exact H.drop.drop | exact H.dropL | exact H.drop.dropL | exact H.dropL.drop | exact H.dropL.dropL | exact H.dropMid) (fun w H => Ev.move rfl) rfl ?_
    refine OpsD.take 6 rfl (by kernel_rfl) (by first | exact H | exact H.drop | exact H.drop.drop | exact H.dropL | exact H.drop.dropL | exact H.dropL.drop | exact H.dropL.dropL | exact H.dropMid) (fun w H => Ev.nilCheck rfl) rfl ?_
    refine OpsD.take 7 rfl (by kernel_rfl) (by first | exact H | exact H.drop | exact H.drop.drop | exact H.dropL | exact H.drop.dropL | exact H.dropL.drop | exact H.dropL.dropL | exact H.dropMid) (fun w H => Ev.fieldAddr (o := 1) rfl (by kernel_rfl)) rfl ?_
    refine OpsD.take 8 rfl (by kernel_rfl) (by first | exact H | exact H.drop | exact H.drop.drop | exact H.dropL | exact H.drop.dropL | exact H.dropL.drop | exact H.dropL.dropL | exact H.dropMid) (fun w H => Ev.loadPart (n := 16) (vs := us) (cs := .map (some m) :: us) H rfl (by kernel_rfl) hul hbX (fun i v hi => by rw [Nat.add_comm]; simpa using hi)) rfl ?_
    refine OpsD.one 4 (by kernel_rfl) (StepD.ex rfl (Ex.call rfl Tryd.call31 (mclone_spec m clock es w X hmX H)) rfl ?_); (try clear H); rintro _ w ⟨mc, rfl, H⟩; refine ⟨(by first | exact H | exact H.drop | exact H.drop.drop | exact H.dropL | exact H.drop.dropL | exact H.dropL.drop | exact H.dropL.dropL | exact H.dropMid), ?_⟩
    refine OpsD.take 9 rfl (by kernel_rfl) (by first | exact H | exact H.drop | exact H.drop.drop | exact H.dropL | exact H.drop.dropL | exact H.dropL.drop | exact H.dropL.dropL | exact H.dropMid) (fun w H => Ev.buildBook rfl rfl hul (by kernel_rfl) (by kernel_rfl)) rfl ?_
    refine OpsD.one 10 (by kernel_rfl) (StepD.ex rfl (Ex.box H rfl) rfl ?_); (try clear H); rintro _ w ⟨c, rfl, H⟩; simp only [Value.cells] at H; refine ⟨(by first | exact H | exact H.drop | exact H.drop.drop | exact H.dropL | exact H.drop.dropL | exact H.dropL.drop | exact H.dropL.dropL | exact H.dropMid), ?_⟩
    refine OpsD.take 11 rfl (by kernel_rfl) (by first | exact H | exact H.drop | exact H.drop.drop | exact H.dropL | exact H.drop.dropL | exact H.dropL.drop | exact H.dropL.dropL | exact H.dropMid) (fun w H => Ev.assign rfl) rfl ?_
    refine OpsD.done (by kernel_rfl) ?_
    have hstart : ∃ Cx, Many (PartR 3 [] X) es hs Cx ∧ SL w (((c, bookO mc us) :: (mc, mapO es clock) :: (Cx ++ X))) := by
      have h1 : ∀ {l : List Ent} {xs : List (Hash × List Nat)} {B : List (Nat × Obj)}, Many (EntR 3) l xs B → (∀ p ∈ B, p ∈ X) → Many (PartR 3 [] X) l xs [] := fun {l xs B} h => by
        induction h with
        | nil => intro _; exact .nil
        | cons h0 _ ih =>
          intro hB
          refine Many.cons (B := []) ⟨h0.1, .inr ⟨by simp, rfl, ?_⟩⟩ (ih fun p hp => hB p (List.mem_append_right _ hp))
          have h2 := h0.2.rdS (L := []) fun _ => rfl
          exact h2.sub fun p hp => hB p (List.mem_append_left _ (by simpa using hp))
      exact ⟨[], h1 hes hCX, H⟩
    obtain ⟨Cx, hpart, H⟩ := hstart
    repeat (first | refine RunsE.seq ?_ | refine RunsE.skip ?_ | refine RunsE.block ?_ | refine RunsE.inBlock ?_ | refine RunsE.yes rfl ?_ | refine RunsE.no rfl ?_ | refine RunsE.exit rfl ?_)
    refine RunsE.region ?_
    refine OpsE.ev (Ev.move rfl) rfl ?_
    refine OpsE.ev (Ev.nilCheck rfl) rfl ?_
    refine OpsE.ev (Ev.fieldAddr (o := 0) rfl (by kernel_rfl)) rfl ?_
    refine OpsE.ev (Ev.load (v := .map (some mc)) H rfl (by kernel_rfl) (Rd.mk m0 rfl)) rfl ?_
    refine OpsE.ex (Ex.range H rfl Tryd.underlying55 m1) rfl ?_; (try clear H); rintro _ w ⟨r, rfl, H⟩
    refine OpsE.nil ?_
    have HP : Copying es hs us X c mc r clock es [] w := .of ⟨Cx, hpart, rfl, rfl, H⟩
    clear H hpart Cx
    repeat refine RunsE.seq ?_
    refine RunsE.join (fun _ : Unit => [(3, .pointer (some ⟨c, 0, none⟩))]) (fun _ w => ∃ es' Cx, Many (EntR 3) es' hs Cx ∧ (es'.map (·.1)).Nodup ∧ Borns es' clock ∧ SL w ((c, bookO mc us) :: (mc, mapO es' clock) :: (Cx ++ X))) (fun next => ?_) ?_
    · refine RunsE.block ?_
      refine RunsE.loop (fun s : List Ent × List Nat => [(3, .pointer (some ⟨c, 0, none⟩)), (25, .pointer (some ⟨r, 0, none⟩))])
        (fun s w => Copying es hs us X c mc r clock s.1 s.2 w) (fun s => leftE s.1 s.2) (es, []) ⟨rfl, rfl, trivial⟩ HP ?_
      clear HP
      rintro ⟨es', seen⟩ w HP nextL
      obtain ⟨Cx, hpart, hk, hbn, H⟩ := HP.ex
      simp only at hpart hk hbn H
      have hd' : (es'.map (·.1)).Nodup := by rw [hk]; exact hd
      have hb' : Borns es' clock := ⟨fun x hx => by
        have h1 : x.2.2 ∈ es.map (·.2.2) := by rw [← hbn]; exact List.mem_map_of_mem (f := fun y : Ent => y.2.2) hx
        obtain ⟨y, hy, hyx⟩ := List.mem_map.1 h1
        have := hb.lt y hy
        omega, by rw [hbn]; exact hb.once⟩
      repeat (first | refine RunsE.seq ?_ | refine RunsE.skip ?_ | refine RunsE.block ?_ | refine RunsE.inBlock ?_ | refine RunsE.yes rfl ?_ | refine RunsE.no rfl ?_ | refine RunsE.exit rfl ?_)
      refine RunsE.region ?_
      refine OpsE.ex (Ex.nextO (M := fun o => (r, o) :: (c, bookO mc us) :: (mc, mapO es' clock) :: (Cx ++ X)) H rfl (fun o' => .head) (.tail _ (.tail _ (.head _))) hb'.lt) rfl ?_; (try clear H); rintro _ w ⟨o, rfl, hnone, hsome, H⟩
      refine OpsE.ev (Ev.extract rfl (nextT_0 o)) rfl ?_
      refine OpsE.nil ?_
      cases o with
      | none =>
        have hall' := leftE_all (hnone rfl)
        repeat refine RunsE.seq ?_
        refine RunsE.no rfl ?_
        refine RunsE.exit rfl ?_
        refine next () _ _ ⟨es', Cx, hpart.impM fun a ha x B h => ⟨h.1, ?_⟩, hd', hb', H.drop⟩ ⟨rfl, trivial⟩
        rcases h.2 with ⟨_, h2⟩ | ⟨h2, _⟩
        · exact h2
        · exact absurd (hall' a ha) h2
      | some a =>
        clear next
        obtain ⟨ha, hns⟩ := hsome a rfl
        simp only [seenT] at H
        obtain ⟨j, hj⟩ := List.getElem?_of_mem ha
        obtain ⟨l1, l2, p, xs1, xs2, B1, Bi, B2, hel, hxs, hl1, hCx, hm1, hr, hm2⟩ := hpart.split hj
        obtain ⟨ak, av, ab⟩ := a
        obtain ⟨hrk, hr2⟩ := hr
        simp only at hrk hr2 hns H
        subst hrk
        obtain ⟨rfl, hrd⟩ : Bi = [] ∧ RdS X 1 av p.2.length (p.2.flatMap gW) := by
          rcases hr2 with ⟨h2, _⟩ | ⟨_, h2, h3⟩
          · exact absurd h2 hns
          · exact ⟨h2, h3⟩
        have hkeys : ∀ x ∈ es', x.1.length = 32 := fun x hx => by
          have h1 : x.1 ∈ es.map (·.1) := by rw [← hk]; exact List.mem_map_of_mem (f := fun y : Ent => y.1) hx
          obtain ⟨y, hy, hyx⟩ := List.mem_map.1 h1
          rw [← hyx]
          exact ents_len hes y hy
        have hp2 : p.2.length ≤ 16 := by
          have hpm : p ∈ hs := by rw [hxs]; simp
          rw [hw p hpm]
          exact whoOf_len L p.1
        repeat refine RunsE.seq ?_
        refine RunsE.yes rfl ?_
        repeat (first | refine RunsE.seq ?_ | refine RunsE.skip ?_ | refine RunsE.block ?_ | refine RunsE.inBlock ?_ | refine RunsE.yes rfl ?_ | refine RunsE.no rfl ?_ | refine RunsE.exit rfl ?_)
        refine RunsE.region ?_
        refine OpsE.ev (Ev.entry (a := (p.1.1, av, ab)) H rfl m0 (.tail _ (.tail _ (.head _))) ha hb'.once) rfl ?_
        refine OpsE.ev (Ev.extract rfl rfl) rfl ?_
        refine OpsE.ev (Ev.extract rfl rfl) rfl ?_
        refine OpsE.ex (Ex.alloc (zv := .agg (List.replicate 32 (.int .u8 0)).toArray) H (by kernel_rfl)) rfl ?_; (try clear H); rintro _ w ⟨b4, rfl, H⟩; simp only [Value.cells] at H
        refine OpsE.exn (Ex.storeBlk (n := 32) (vs := gH p.1) H rfl rfl (by kernel_rfl) (gH_len _) (gH_one _) u0 (by rw [gH_len]; rfl) (Thaw.zero _ _)) ?_; (try clear H); intro _ w H
        refine OpsE.ev (Ev.assign rfl) rfl ?_
        refine OpsE.nil ?_
        repeat (first | refine RunsE.seq ?_ | refine RunsE.skip ?_ | refine RunsE.block ?_ | refine RunsE.inBlock ?_ | refine RunsE.yes rfl ?_ | refine RunsE.no rfl ?_ | refine RunsE.exit rfl ?_)
        refine RunsE.drawS H [7] (by kernel_rfl) ?_; (try clear H); intro w H
        refine OpsD.take 0 rfl (by kernel_rfl) (by first | exact H | exact H.drop | exact H.drop.drop | exact H.dropL | exact H.drop.dropL | exact H.dropL.drop | exact H.dropL.dropL | exact H.dropMid) (fun w H => Ev.move rfl) rfl ?_
        refine OpsD.take 1 rfl (by kernel_rfl) (by first | exact H | exact H.drop | exact H.drop.drop | exact H.dropL | exact H.drop.dropL | exact H.dropL.drop | exact H.dropL.dropL | exact H.dropMid) (fun w H => Ev.nilCheck rfl) rfl ?_
        refine OpsD.take 2 rfl (by kernel_rfl) (by first | exact H | exact H.drop | exact H.drop.drop | exact H.dropL | exact H.drop.dropL | exact H.dropL.drop | exact H.dropL.dropL | exact H.dropMid) (fun w H => Ev.fieldAddr (o := 0) rfl (by kernel_rfl)) rfl ?_
        refine OpsD.take 3 rfl (by kernel_rfl) (by first | exact H | exact H.drop | exact H.drop.drop | exact H.dropL | exact H.drop.dropL | exact H.dropL.drop | exact H.dropL.dropL | exact H.dropMid) (fun w H => Ev.load (v := .map (some mc)) H rfl (by kernel_rfl) (Rd.mk (.tail _ (.tail _ (.head _))) rfl)) rfl ?_
        refine OpsD.take 4 rfl (by kernel_rfl) (by first | exact H | exact H.drop | exact H.drop.drop | exact H.dropL | exact H.drop.dropL | exact H.dropL.drop | exact H.dropL.dropL | exact H.dropMid) (fun w H => Ev.loadBlk (n := 32) (vs := gH p.1) H rfl (by kernel_rfl) (gH_len _) m0) rfl ?_
        refine OpsD.take 5 rfl (by kernel_rfl) (by first | exact H | exact H.drop | exact H.drop.drop | exact H.dropL | exact H.drop.dropL | exact H.dropL.drop | exact H.dropL.dropL | exact H.dropMid) (fun w H => Ev.move rfl) rfl ?_
        refine OpsD.one 6 (by kernel_rfl) (StepD.ex rfl (Ex.call rfl Tryd.call30 (wclone_spec av _ (by omega) w _ (hrd.sub fun q hq => .tail _ (.tail _ (.tail _ (.tail _ (List.mem_append_right _ hq))))) H)) rfl ?_); (try clear H); rintro v' w ⟨B', hs', H⟩; refine ⟨(by first | exact H | exact H.drop | exact H.drop.drop | exact H.dropL | exact H.drop.dropL | exact H.dropL.drop | exact H.dropL.dropL | exact H.dropMid), ?_⟩
        refine OpsD.one 7 (by kernel_rfl) (StepD.exnT rfl rfl (Ex.mapUpdate (M := fun o => B' ++ ((b4, Obj.cells (gH p.1).toArray 25 (0, 0)) :: (r, iterO mc clock (seen ++ [ab]) clock) :: (c, bookO mc us) :: (mc, o) :: (Cx ++ X))) H mapT rfl rfl rfl (fun o' => Upd.skip (.tail (.tail (.tail .head))) B') hkeys p.1.2) ?_); intro _ w hM
        refine OpsD.done (by kernel_rfl) ?_
        rcases hM with ⟨hn, _⟩ | ⟨j', x, hj', hx, H⟩
        · exact absurd rfl (hn _ ha)
        have e1 : (es'.map (·.1))[j]? = some p.1.1 := by rw [List.getElem?_map, hj]; rfl
        have e2 : (es'.map (·.1))[j']? = some p.1.1 := by rw [List.getElem?_map, hj']; simp [hx]
        have := nodup_idx hd' e1 e2
        subst this
        rw [hj] at hj'
        obtain rfl := Option.some.inj hj'
        simp only at H
        have hset : es'.set j (p.1.1, v', ab) = l1 ++ (p.1.1, v', ab) :: l2 := by rw [hel]; exact set_app hl1
        have hborn : ∀ x ∈ l1 ++ l2, x.2.2 ≠ ab := fun x hx he => by
          have h5 := hb'.once
          rw [hel, List.map_append, List.map_cons, List.nodup_append] at h5
          obtain ⟨h6, h7, h8⟩ := h5
          rcases List.mem_append.1 hx with hx | hx
          · exact h8 x.2.2 (List.mem_map_of_mem (f := fun y : Ent => y.2.2) hx) ab (.head _) he
          · exact (List.nodup_cons.1 h7).1 (by have h9 := List.mem_map_of_mem (f := fun y : Ent => y.2.2) hx; rw [he] at h9; exact h9)
        have himp : ∀ {l : List Ent} {xs : List (Hash × List Nat)} {B : List (Nat × Obj)}, (∀ x ∈ l, x.2.2 ≠ ab) → Many (PartR 3 seen X) l xs B → Many (PartR 3 (seen ++ [ab]) X) l xs B := fun hne h => h.impM fun x hx q B hq => ⟨hq.1, by
          rcases hq.2 with ⟨h1, h2⟩ | ⟨h1, h2, h3⟩
          · exact .inl ⟨List.mem_append_left _ h1, h2⟩
          · refine .inr ⟨fun hm => ?_, h2, h3⟩
            rcases List.mem_append.1 hm with hm | hm
            · exact h1 hm
            · exact hne x hx (List.mem_singleton.1 hm)⟩
        have hnew : Many (PartR 3 (seen ++ [ab]) X) (es'.set j (p.1.1, v', ab)) hs (B1 ++ (B' ++ B2)) := by
          rw [hset, hxs]
          exact (himp (fun x hx => hborn x (List.mem_append_left _ hx)) hm1).append (.cons ⟨rfl, .inl ⟨by simp, hs'⟩⟩ (himp (fun x hx => hborn x (List.mem_append_right _ hx)) hm2))
        have hk2 : (es'.set j (p.1.1, v', ab)).map (·.1) = es.map (·.1) := by rw [← hk]; exact map_set_same hj rfl
        have hbn2 : (es'.set j (p.1.1, v', ab)).map (·.2.2) = es.map (·.2.2) := by rw [← hbn]; exact map_set_same hj rfl
        refine RunsE.inBlock ?_
        refine nextL (es'.set j (p.1.1, v', ab), seen ++ [ab]) _ _ ?_ (.of ⟨B1 ++ (B' ++ B2), hnew, hk2, hbn2, ?_⟩) ⟨rfl, rfl, trivial⟩
        · simp only
          rw [leftE_eq, hbn2, ← hbn, ← leftE_eq]
          exact leftE_step (List.mem_map_of_mem (f := fun y : Ent => y.2.2) ha) hns
        · rw [hCx] at H
          refine H.dropMid.perm ?_
          exact perm_out (X := [_, _, _]) (C0 := B1 ++ B2) (perm_in B1 B' B2)
    clear HP
    rintro _ w ⟨es', Cx, hes', hd', hb', H⟩
    repeat (first | refine RunsE.seq ?_ | refine RunsE.skip ?_ | refine RunsE.block ?_ | refine RunsE.inBlock ?_ | refine RunsE.yes rfl ?_ | refine RunsE.no rfl ?_ | refine RunsE.exit rfl ?_)
    refine RunsE.region ?_
    refine OpsE.ev (Ev.move rfl) rfl ?_
    refine OpsE.ev (Ev.nilCheck rfl) rfl ?_
    refine OpsE.ev (Ev.fieldAddr (o := 1) rfl (by kernel_rfl)) rfl ?_
    refine OpsE.ev (Ev.loadPart (n := 16) (vs := us) (cs := .map (some mc) :: us) H rfl (by kernel_rfl) hul m0 (fun i v hi => by rw [Nat.add_comm]; simpa using hi)) rfl ?_
    refine OpsE.ev (Ev.move rfl) rfl ?_
    refine OpsE.nil ?_
    repeat refine RunsE.seq ?_
    refine RunsE.join (fun _ : Unit => [(3, .pointer (some ⟨c, 0, none⟩))]) (fun _ w => ∃ us' Dx, Many (SumR 25) us' ((List.range 16).map fun k : Nat => sumsZ L (k : Int)) Dx ∧ SL w (Dx ++ ((c, bookO mc us') :: (mc, mapO es' clock) :: (Cx ++ X)))) (fun next => ?_) ?_
    · refine RunsE.block ?_
      refine RunsE.loop (fun i : Nat => [(3, .pointer (some ⟨c, 0, none⟩)), (41, .agg us.toArray), (42, .int .i64 (i : Int))])
        (fun i w => i ≤ 16 ∧ ∃ us' Dx, us'.length = i ∧ Many (SumR 25) us' ((List.range i).map fun k : Nat => sumsZ L (k : Int)) Dx ∧ SL w (Dx ++ ((c, bookO mc (us' ++ us.drop i)) :: (mc, mapO es' clock) :: (Cx ++ X)))) (fun i => 16 - i) 0 ⟨rfl, rfl, rfl, trivial⟩ ⟨by omega, [], [], rfl, .nil, H⟩ ?_
      clear H
      rintro i w ⟨hi, us', Dx, hul', hus', H⟩ nextL
      by_cases h1 : i = 16
      · subst h1
        repeat (first | refine RunsE.seq ?_ | refine RunsE.skip ?_ | refine RunsE.block ?_ | refine RunsE.inBlock ?_ | refine RunsE.yes rfl ?_ | refine RunsE.no rfl ?_ | refine RunsE.exit rfl ?_)
        refine RunsE.region ?_
        refine OpsE.ev (Ev.lss (r := false) rfl rfl rfl) rfl ?_
        refine OpsE.nil ?_
        repeat refine RunsE.seq ?_
        refine RunsE.no rfl ?_
        refine RunsE.exit rfl ?_
        rw [List.drop_eq_nil_of_le (by omega), List.append_nil] at H
        exact next () _ _ ⟨us', Dx, hus', H⟩ ⟨rfl, trivial⟩
      clear next
      obtain ⟨u, hu⟩ := el_some (xs := us) (i := i) (by omega)
      obtain ⟨q, D1, Di, D2, hq, hDD, hr, _⟩ := hus.at hu
      rw [List.getElem?_map, List.getElem?_range (by omega)] at hq
      obtain rfl := Option.some.inj hq
      have hsl := sumsZ_len L (i : Int)
      have hrd : RdS X 32 u (sumsZ L (i : Int)).length ((sumsZ L (i : Int)).flatMap gH) := by
        have h2 : RdS (Di ++ []) 32 u (sumsZ L (i : Int)).length ((sumsZ L (i : Int)).flatMap gH) := Slc.rdS hr gH_len
        exact h2.sub fun y hy => hDX y (by rw [hDD]; simp only [List.append_nil] at hy; exact List.mem_append_right _ (List.mem_append_left _ hy))
      have hdrop : us.drop i = u :: us.drop (i + 1) := by
        rw [List.drop_eq_getElem_cons (by omega)]
        congr 1
        rw [List.getElem?_eq_getElem (by omega)] at hu
        exact Option.some.inj hu
      repeat (first | refine RunsE.seq ?_ | refine RunsE.skip ?_ | refine RunsE.block ?_ | refine RunsE.inBlock ?_ | refine RunsE.yes rfl ?_ | refine RunsE.no rfl ?_ | refine RunsE.exit rfl ?_)
      refine RunsE.region ?_
      refine OpsE.ev (Ev.lss (r := true) rfl rfl (decide_eq_true (by omega))) rfl ?_
      refine OpsE.nil ?_
      repeat (first | refine RunsE.seq ?_ | refine RunsE.skip ?_ | refine RunsE.block ?_ | refine RunsE.inBlock ?_ | refine RunsE.yes rfl ?_ | refine RunsE.no rfl ?_ | refine RunsE.exit rfl ?_)
      repeat (first | refine RunsE.seq ?_ | refine RunsE.skip ?_ | refine RunsE.block ?_ | refine RunsE.inBlock ?_ | refine RunsE.yes rfl ?_ | refine RunsE.no rfl ?_ | refine RunsE.exit rfl ?_)
      refine RunsE.region ?_
      refine OpsE.ev (Ev.move rfl) rfl ?_
      refine OpsE.ev (Ev.ixArr (m := i) rfl rfl rfl Tryd.underlying56 (by kernel_rfl) (by kernel_rfl) (by omega) (by simpa using hu)) rfl ?_
      refine OpsE.ev (Ev.assign rfl) rfl ?_
      refine OpsE.ev (Ev.assign rfl) rfl ?_
      refine OpsE.nil ?_
      repeat (first | refine RunsE.seq ?_ | refine RunsE.skip ?_ | refine RunsE.block ?_ | refine RunsE.inBlock ?_ | refine RunsE.yes rfl ?_ | refine RunsE.no rfl ?_ | refine RunsE.exit rfl ?_)
      refine RunsE.drawS H [7] (by kernel_rfl) ?_; (try clear H); intro w H
      refine OpsD.take 0 rfl (by kernel_rfl) (by first | exact H | exact H.drop | exact H.drop.drop | exact H.dropL | exact H.drop.dropL | exact H.dropL.drop | exact H.dropL.dropL | exact H.dropMid) (fun w H => Ev.move rfl) rfl ?_
      refine OpsD.take 1 rfl (by kernel_rfl) (by first | exact H | exact H.drop | exact H.drop.drop | exact H.dropL | exact H.drop.dropL | exact H.dropL.drop | exact H.dropL.dropL | exact H.dropMid) (fun w H => Ev.move rfl) rfl ?_
      refine OpsD.take 2 rfl (by kernel_rfl) (by first | exact H | exact H.drop | exact H.drop.drop | exact H.dropL | exact H.drop.dropL | exact H.dropL.drop | exact H.dropL.dropL | exact H.dropMid) (fun w H => Ev.move rfl) rfl ?_
      refine OpsD.take 4 rfl (by kernel_rfl) (by first | exact H | exact H.drop | exact H.drop.drop | exact H.dropL | exact H.drop.dropL | exact H.dropL.drop | exact H.dropL.dropL | exact H.dropMid) (fun w H => Ev.nilCheck rfl) rfl ?_
      refine OpsD.take 5 rfl (by kernel_rfl) (by first | exact H | exact H.drop | exact H.drop.drop | exact H.dropL | exact H.drop.dropL | exact H.dropL.drop | exact H.dropL.dropL | exact H.dropMid) (fun w H => Ev.fieldAddr (o := 1) rfl (by kernel_rfl)) rfl ?_
      refine OpsD.one 3 (by kernel_rfl) (StepD.ex rfl (Ex.call rfl Tryd.call32 (hclone_spec u _ (by omega) w _ (hrd.sub fun y hy => List.mem_append_right _ (.tail _ (.tail _ (List.mem_append_right _ hy)))) H)) rfl ?_); (try clear H); rintro u' w ⟨B', hs', H⟩; obtain ⟨a', c', eu⟩ := hs'.len; refine ⟨(by first | exact H | exact H.drop | exact H.drop.drop | exact H.dropL | exact H.drop.dropL | exact H.dropL.drop | exact H.dropL.dropL | exact H.dropMid), ?_⟩
      refine OpsD.take 6 rfl (by kernel_rfl) (by first | exact H | exact H.drop | exact H.drop.drop | exact H.dropL | exact H.drop.dropL | exact H.dropL.drop | exact H.dropL.dropL | exact H.dropMid) (fun w H => Ev.iaArr (n := 16) (sz := 1) (m := i) (o := 1 + i) rfl rfl rfl (by kernel_rfl) (by omega) (by omega)) rfl ?_
      refine OpsD.one 7 (by kernel_rfl) (StepD.exnT rfl rfl (Ex.store1 (cs := (.map (some mc) :: (us' ++ us.drop i)).toArray) (cs' := (.map (some mc) :: ((us' ++ [u']) ++ us.drop (i + 1))).toArray) H rfl rfl (by kernel_rfl) (by rw [eu]; rfl) (Upd.skip (Upd.skip .head Dx) B') (by simp [hul, hul']; omega) (Thaw.zero _ _) (by rw [Nat.add_comm, hdrop]; simp [set_app hul'])) ?_); (try clear H); intro _ w H
      refine OpsD.done (by kernel_rfl) ?_
      repeat (first | refine RunsE.seq ?_ | refine RunsE.skip ?_ | refine RunsE.block ?_ | refine RunsE.inBlock ?_ | refine RunsE.yes rfl ?_ | refine RunsE.no rfl ?_ | refine RunsE.exit rfl ?_)
      refine RunsE.region ?_
      refine OpsE.ev (Ev.add rfl rfl) rfl ?_
      refine OpsE.ev (Ev.move rfl) rfl ?_
      refine OpsE.nil ?_
      refine nextL (i + 1) _ _ (by omega) ⟨by omega, us' ++ [u'], Dx ++ B', by simp [hul'], ?_, ?_⟩ ⟨rfl, rfl, rfl, trivial⟩
      · rw [List.range_succ, List.map_append]
        exact hus'.push hs'
      · refine H.perm ?_
        rw [List.append_assoc]
        exact perm_in Dx B' _
    clear H
    rintro _ w ⟨us', Dx, hus', H⟩
    repeat (first | refine RunsE.seq ?_ | refine RunsE.skip ?_ | refine RunsE.block ?_ | refine RunsE.inBlock ?_ | refine RunsE.yes rfl ?_ | refine RunsE.no rfl ?_ | refine RunsE.exit rfl ?_)
    refine RunsE.region ?_
    refine OpsE.ev (Ev.move rfl) rfl ?_
    refine OpsE.ev (Ev.assign rfl) rfl ?_
    refine OpsE.nil ?_
    repeat (first | refine RunsE.seq ?_ | refine RunsE.skip ?_ | refine RunsE.block ?_ | refine RunsE.inBlock ?_ | refine RunsE.yes rfl ?_ | refine RunsE.no rfl ?_ | refine RunsE.exit rfl ?_)
    refine RunsE.ret1 Tryd.func16 rfl rfl ⟨c, _, rfl, .mk mc clock es' us' hs Cx Dx hes' hus' hd' hw hall hb', ?_⟩
    refine H.perm ?_
    simp only [List.cons_append, List.append_assoc]
    exact ((perm_in Cx Dx X).append_left [_, _]).trans (perm_in [_, _] Dx _)

end Go.Proofs.YtniihnncgblocaaDoor
