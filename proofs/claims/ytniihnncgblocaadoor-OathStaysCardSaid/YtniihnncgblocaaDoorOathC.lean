/-
  The book: New, Who, All, Has, Sums, Len.
-/
import Derived.Test.YtniihnncgblocaaDoorOathL
namespace Go.Proofs.YtniihnncgblocaaDoor.V

abbrev gH (h : Hash) : List Value := h.1.map BV
theorem gH_len (h : Hash) : (gH h).length = 32 := by rw [List.length_map]; exact h.2
theorem gH_one : ∀ h : Hash, ∀ v ∈ gH h, v.oneCell' = true := fun h v hv => by
  obtain ⟨k, _, rfl⟩ := List.mem_map.1 hv
  rfl

/-- The entries' stamps. -/
structure Borns (es : List Ent) (clock : Nat) : Prop where
  lt : ∀ x ∈ es, x.2.2 < clock
  once : (es.map (·.2.2)).Nodup

theorem Borns.nil : Borns [] 0 := ⟨fun x h => (by cases h), .nil⟩
theorem Borns.push {es : List Ent} {clock : Nat} (h : Borns es clock) (k : List UInt8) (v : Value) : Borns (es ++ [(k, v, clock)]) (clock + 1) := by
  refine ⟨fun x hx => ?_, ?_⟩
  · rcases List.mem_append.1 hx with hx | hx
    · have := h.lt x hx; omega
    · obtain rfl := List.mem_singleton.1 hx; simp
  · rw [List.map_append, List.nodup_append]
    refine ⟨h.once, by simp, fun a ha b hb => ?_⟩
    simp only [List.map_cons, List.map_nil, List.mem_singleton] at hb
    subst hb
    obtain ⟨x, hx, rfl⟩ := List.mem_map.1 ha
    have := h.lt x hx
    omega
theorem map_set_same {α β : Type} {f : α → β} {l : List α} {i : Nat} {a b : α} (hi : l[i]? = some a) (hf : f b = f a) : (l.set i b).map f = l.map f := by
  rw [List.map_set]
  apply List.ext_getElem?
  intro j
  rw [List.getElem?_set]
  split
  · rename_i hij
    subst hij
    rw [List.getElem?_map, hi]
    split
    · simp [hf]
    · rename_i hlt
      rw [List.length_map] at hlt
      rw [List.getElem?_eq_none (by omega)] at hi
      cases hi
  · rfl
theorem Borns.set {es : List Ent} {clock j : Nat} {x : Ent} (h : Borns es clock) (hj : es[j]? = some x) (k : List UInt8) (v : Value) : Borns (es.set j (k, v, x.2.2)) clock := by
  refine ⟨fun y hy => ?_, by rw [map_set_same (f := fun y : Ent => y.2.2) (b := (k, v, x.2.2)) hj rfl]; exact h.once⟩
  rcases List.mem_or_eq_of_mem_set hy with hy | rfl
  · exact h.lt y hy
  · exact h.lt x (List.mem_of_getElem? hj)

/-- An entry: who signed this sum. -/
def EntR (T : TypeId) (e : Ent) (p : Hash × List Nat) (B : List (Nat × Obj)) : Prop := e.1 = p.1.1 ∧ Slc gW 1 T e.2.1 p.2 B
/-- What one party signed. -/
def SumR (T : TypeId) (u : Value) (l : List Hash) (B : List (Nat × Obj)) : Prop := Slc gH 32 T u l B

/-- Numbers that are read where they lie. -/
abbrev ZIn (X : List (Nat × Obj)) (v : Value) (zs : List Int) : Prop := Els X (fun u z => u = .int .i64 z) v zs

theorem nodup_idx {α : Type} {l : List α} (h : l.Nodup) {i j : Nat} {a : α} (hi : l[i]? = some a) (hj : l[j]? = some a) : i = j := by
  have h1 : ∀ {i j : Nat}, i < j → l[i]? = some a → l[j]? = some a → False := fun {i j} hij hi hj => by
    have hjl : j < l.length := by
      rcases Nat.lt_or_ge j l.length with h | h
      · exact h
      · rw [List.getElem?_eq_none h] at hj; cases hj
    have h2 := List.pairwise_iff_getElem.1 h i j (by omega) hjl hij
    rw [List.getElem?_eq_getElem (by omega)] at hi
    rw [List.getElem?_eq_getElem hjl] at hj
    exact h2 ((Option.some.inj hi).trans (Option.some.inj hj).symm)
  rcases Nat.lt_trichotomy i j with h | h | h
  · exact (h1 h hi hj).elim
  · exact h
  · exact (h1 h hj hi).elim

theorem ents_len {T : TypeId} {es : List Ent} {hs : List (Hash × List Nat)} {C : List (Nat × Obj)} (h : Many (EntR T) es hs C) : ∀ x ∈ es, x.1.length = 32 := by
  induction h with
  | nil => intro x hx; cases hx
  | cons h0 _ ih =>
    intro x hx
    rcases List.mem_cons.1 hx with rfl | hx
    · rw [h0.1]; exact Subtype.property (p := fun h : List UInt8 => h.length = 32) _
    · exact ih x hx

theorem Many.mem {α β : Type} {R : α → β → List (Nat × Obj) → Prop} {l : List α} {xs : List β} {B : List (Nat × Obj)} (h : Many R l xs B) : ∀ x ∈ xs, ∃ a ∈ l, ∃ Bi, R a x Bi := by
  induction h with
  | nil => intro x hx; cases hx
  | cons h0 _ ih =>
    intro x hx
    rcases List.mem_cons.1 hx with rfl | hx
    · exact ⟨_, .head _, _, h0⟩
    · obtain ⟨a, ha, h⟩ := ih x hx
      exact ⟨a, .tail _ ha, h⟩

end Go.Proofs.YtniihnncgblocaaDoor.V
namespace Go.Proofs.YtniihnncgblocaaDoor
open Go.Proofs.YtniihnncgblocaaDoor.V

def bookO (m : Nat) (us : List Value) : Obj := .cells (.map (some m) :: us).toArray 58 (0, 0)

/-- The book at the block b. -/
inductive BookH (b : Nat) (L : List Sg) : List (Nat × Obj) → Prop where
  | mk (m clock : Nat) (es : List Ent) (us : List Value) (hs : List (Hash × List Nat)) (C D : List (Nat × Obj)) (hes : Many (EntR 3) es hs C) (hus : Many (SumR 25) us ((List.range 16).map fun k : Nat => sumsZ L (k : Int)) D)
      (hd : (es.map (·.1)).Nodup) (hw : ∀ p ∈ hs, p.2 = whoOf L p.1) (hall : ∀ h : Hash, (∀ p ∈ hs, p.1 ≠ h) → whoOf L h = []) (hb : Borns es clock) : BookH b L ((b, bookO m us) :: (m, mapO es clock) :: (C ++ D))

theorem mapT : MapT Tryd.prog 55 25 23 32 :=
  MapT.of (m := 3) (by kernel_rfl) Tryd.underlying55 Tryd.underlying25 Tryd.underlying5 (by kernel_rfl) (by kernel_rfl) (by kernel_rfl) (by decide +kernel) (by decide) (by kernel_rfl)

/-- What the map holds at a sum. -/
theorem ents_val {L : List Sg} {es : List Ent} {hs : List (Hash × List Nat)} {C : List (Nat × Obj)} (hes : Many (EntR 3) es hs C) (hd : (es.map (·.1)).Nodup) (hw : ∀ p ∈ hs, p.2 = whoOf L p.1) (hall : ∀ h : Hash, (∀ p ∈ hs, p.1 ≠ h) → whoOf L h = []) (h : Hash) :
    ∃ v, (∀ G, (∀ p ∈ C, p ∈ G) → RdS G 1 v (whoOf L h).length ((whoOf L h).flatMap gW)) ∧ ((∀ x ∈ es, x.1 ≠ h.1) → v = .slice none 0 0) ∧ ∀ (j : Nat) x, es[j]? = some x → x.1 = h.1 → v = x.2.1 := by
  by_cases hf : ∃ (j : Nat) (x : Ent), es[j]? = some x ∧ x.1 = h.1
  · obtain ⟨j, x, hj, hx⟩ := hf
    obtain ⟨p, B1, Bi, B2, hp, rfl, ⟨hr1, hr2⟩, _⟩ := hes.at hj
    have hph : p.1 = h := Subtype.ext (hr1.symm.trans hx)
    have hpw := hw p (List.mem_of_getElem? hp)
    rw [hph] at hpw
    rw [hpw] at hr2
    refine ⟨x.2.1, fun G hG => ?_, fun hn => absurd hx (hn x (List.mem_of_getElem? hj)), fun j' x' hj' hx' => ?_⟩
    · have h1 : RdS (Bi ++ []) 1 x.2.1 (whoOf L h).length ((whoOf L h).flatMap gW) := hr2.rdS fun _ => rfl
      exact h1.sub fun q hq => hG q (List.mem_append_right _ (List.mem_append_left _ (by simpa using hq)))
    · have e1 : (es.map (·.1))[j]? = some h.1 := by rw [List.getElem?_map, hj]; simp [hx]
      have e2 : (es.map (·.1))[j']? = some h.1 := by rw [List.getElem?_map, hj']; simp [hx']
      have := nodup_idx hd e1 e2
      subst this
      rw [hj] at hj'
      rw [Option.some.inj hj']
  · have hno : ∀ x ∈ es, x.1 ≠ h.1 := fun x hx he => by
      obtain ⟨j, hj⟩ := List.getElem?_of_mem hx
      exact hf ⟨j, x, hj, he⟩
    have hw0 : whoOf L h = [] := hall h fun p hp he => by
      obtain ⟨e, he1, _, hr, _⟩ := hes.mem p hp
      exact hno e he1 (by rw [hr, he])
    refine ⟨.slice none 0 0, fun G _ => by rw [hw0]; exact .nil, fun _ => rfl, fun j x hj hx => absurd hx (hno x (List.mem_of_getElem? hj))⟩

theorem onew_spec [Strm] (w : World) (F : List (Nat × Obj)) (H : SL w F) : Does Tryd.prog 11 #[] w fun r w' => ∃ b A, r = .pointer (some ⟨b, 0, none⟩) ∧ BookH b [] A ∧ SL w' (A ++ F) := by
  refine Does.intro (args := []) (e := []) Tryd.func11 rfl Tryd.ntmps11 rfl rfl ?_
  repeat (first | refine RunsE.seq ?_ | refine RunsE.skip ?_ | refine RunsE.block ?_ | refine RunsE.inBlock ?_ | refine RunsE.yes rfl ?_ | refine RunsE.no rfl ?_ | refine RunsE.exit rfl ?_)
  repeat (first | refine RunsE.seq ?_ | refine RunsE.skip ?_ | refine RunsE.block ?_ | refine RunsE.inBlock ?_ | refine RunsE.yes rfl ?_ | refine RunsE.no rfl ?_ | refine RunsE.exit rfl ?_)
  refine RunsE.region ?_
  refine OpsE.ev (Ev.assign rfl) rfl ?_
  refine OpsE.nil ?_
  repeat (first | refine RunsE.seq ?_ | refine RunsE.skip ?_ | refine RunsE.block ?_ | refine RunsE.inBlock ?_ | refine RunsE.yes rfl ?_ | refine RunsE.no rfl ?_ | refine RunsE.exit rfl ?_)
  refine RunsE.region ?_
  refine OpsE.ex (Ex.makeMap H) rfl ?_; (try clear H); rintro _ w ⟨m, rfl, H⟩
  refine OpsE.ev (Ev.buildSt (pl := [(0, 1), (1, 16)]) (zv := .agg #[.map none, .slice none 0 0, .slice none 0 0, .slice none 0 0, .slice none 0 0, .slice none 0 0, .slice none 0 0, .slice none 0 0, .slice none 0 0, .slice none 0 0, .slice none 0 0, .slice none 0 0, .slice none 0 0, .slice none 0 0, .slice none 0 0, .slice none 0 0, .slice none 0 0]) rfl (by kernel_rfl) (by kernel_rfl) rfl) rfl ?_
  refine OpsE.ex (Ex.box H rfl) rfl ?_; (try clear H); rintro _ w ⟨b, rfl, H⟩
  refine OpsE.ev (Ev.assign rfl) rfl ?_
  refine OpsE.nil ?_
  repeat (first | refine RunsE.seq ?_ | refine RunsE.skip ?_ | refine RunsE.block ?_ | refine RunsE.inBlock ?_ | refine RunsE.yes rfl ?_ | refine RunsE.no rfl ?_ | refine RunsE.exit rfl ?_)
  have hm : Many (SumR 25) (List.replicate 16 (.slice none 0 0)) ((List.range 16).map fun k : Nat => sumsZ [] (k : Int)) [] := by
    have h0 : ∀ n : Nat, Many (SumR 25) (List.replicate n (.slice none 0 0)) (List.replicate n []) [] := fun n => by
      induction n with
      | zero => exact .nil
      | succ n ih => exact Many.cons (B := []) .nil ih
    exact h0 16
  exact RunsE.ret1 Tryd.func11 rfl rfl ⟨b, _, rfl, .mk m 0 [] (List.replicate 16 (.slice none 0 0)) [] [] [] .nil hm .nil (fun p hp => by cases hp) (fun h _ => rfl) Borns.nil, H⟩

theorem nwho_spec [Strm] (h : Hash) (w : World) (F : List (Nat × Obj)) (H : SL w F) : Does Tryd.prog 14 #[.pointer none, hV h.1] w fun r w' => r = .slice none 0 0 ∧ SL w' F := by
  refine Does.intro (args := [_, _]) (e := [(0, _), (1, _)]) Tryd.func14 rfl Tryd.ntmps14 rfl rfl ?_
  repeat (first | refine RunsE.seq ?_ | refine RunsE.skip ?_ | refine RunsE.block ?_ | refine RunsE.inBlock ?_ | refine RunsE.yes rfl ?_ | refine RunsE.no rfl ?_ | refine RunsE.exit rfl ?_)
  repeat (first | refine RunsE.seq ?_ | refine RunsE.skip ?_ | refine RunsE.block ?_ | refine RunsE.inBlock ?_ | refine RunsE.yes rfl ?_ | refine RunsE.no rfl ?_ | refine RunsE.exit rfl ?_)
  refine RunsE.region ?_
  refine OpsE.ex (Ex.box H rfl) rfl ?_; (try clear H); rintro _ w ⟨b3, rfl, H⟩; simp only [Value.cells] at H
  refine OpsE.ev (Ev.assign rfl) rfl ?_
  refine OpsE.nil ?_
  repeat (first | refine RunsE.seq ?_ | refine RunsE.skip ?_ | refine RunsE.block ?_ | refine RunsE.inBlock ?_ | refine RunsE.yes rfl ?_ | refine RunsE.no rfl ?_ | refine RunsE.exit rfl ?_)
  refine RunsE.region ?_
  refine OpsE.ev (Ev.move rfl) rfl ?_
  refine OpsE.ev (Ev.ptrNilEq (el := 58) rfl rfl (by kernel_rfl)) rfl ?_
  refine OpsE.nil ?_
  repeat (first | refine RunsE.seq ?_ | refine RunsE.skip ?_ | refine RunsE.block ?_ | refine RunsE.inBlock ?_ | refine RunsE.yes rfl ?_ | refine RunsE.no rfl ?_ | refine RunsE.exit rfl ?_)
  refine RunsE.region ?_
  refine OpsE.ev (Ev.assign rfl) rfl ?_
  refine OpsE.nil ?_
  repeat (first | refine RunsE.seq ?_ | refine RunsE.skip ?_ | refine RunsE.block ?_ | refine RunsE.inBlock ?_ | refine RunsE.yes rfl ?_ | refine RunsE.no rfl ?_ | refine RunsE.exit rfl ?_)
  exact RunsE.ret1 Tryd.func14 rfl rfl ⟨rfl, H.drop⟩

theorem who_spec [Strm] (b : Nat) (L : List Sg) (h : Hash) (A : List (Nat × Obj)) (w : World) (F : List (Nat × Obj)) (hA : BookH b L A) (H : SL w (A ++ F)) :
    Does Tryd.prog 14 #[.pointer (some ⟨b, 0, none⟩), hV h.1] w fun r w' => ∃ B, SlW r (whoOf L h) B ∧ SL w' (B ++ (A ++ F)) := by
  have hl := whoOf_len L h
  refine Does.intro (args := [_, _]) (e := [(0, _), (1, _)]) Tryd.func14 rfl Tryd.ntmps14 rfl rfl ?_
  repeat (first | refine RunsE.seq ?_ | refine RunsE.skip ?_ | refine RunsE.block ?_ | refine RunsE.inBlock ?_ | refine RunsE.yes rfl ?_ | refine RunsE.no rfl ?_ | refine RunsE.exit rfl ?_)
  repeat (first | refine RunsE.seq ?_ | refine RunsE.skip ?_ | refine RunsE.block ?_ | refine RunsE.inBlock ?_ | refine RunsE.yes rfl ?_ | refine RunsE.no rfl ?_ | refine RunsE.exit rfl ?_)
  refine RunsE.region ?_
  refine OpsE.ex (Ex.box H rfl) rfl ?_; (try clear H); rintro _ w ⟨b3, rfl, H⟩; simp only [Value.cells] at H
  refine OpsE.ev (Ev.assign rfl) rfl ?_
  refine OpsE.nil ?_
  repeat (first | refine RunsE.seq ?_ | refine RunsE.skip ?_ | refine RunsE.block ?_ | refine RunsE.inBlock ?_ | refine RunsE.yes rfl ?_ | refine RunsE.no rfl ?_ | refine RunsE.exit rfl ?_)
  refine RunsE.region ?_
  refine OpsE.ev (Ev.move rfl) rfl ?_
  refine OpsE.ev (Ev.ptrNilEq (el := 58) rfl rfl (by kernel_rfl)) rfl ?_
  refine OpsE.nil ?_
  cases hA with
  | mk m clock es us hs C D hes hus hd hw hall hb =>
    obtain ⟨v, hv, hv0, hv1⟩ := ents_val hes hd hw hall h
    simp only [List.cons_append, List.append_assoc] at H
    repeat (first | refine RunsE.seq ?_ | refine RunsE.skip ?_ | refine RunsE.block ?_ | refine RunsE.inBlock ?_ | refine RunsE.yes rfl ?_ | refine RunsE.no rfl ?_ | refine RunsE.exit rfl ?_)
    refine RunsE.drawS H [] (by kernel_rfl) ?_; (try clear H); intro w H
    refine OpsD.take 0 rfl (by kernel_rfl) (by first | exact H | exact H.drop | exact H.drop.drop | exact H.dropL | exact H.drop.dropL | exact H.dropL.drop | exact H.dropL.dropL | exact H.dropMid) (fun w H => Ev.move rfl) rfl ?_
    refine OpsD.take 1 rfl (by kernel_rfl) (by first | exact H | exact H.drop | exact H.drop.drop | exact H.dropL | exact H.drop.dropL | exact H.dropL.drop | exact H.dropL.dropL | exact H.dropMid) (fun w H => Ev.nilCheck rfl) rfl ?_
    refine OpsD.take 2 rfl (by kernel_rfl) (by first | exact H | exact H.drop | exact H.drop.drop | exact H.dropL | exact H.drop.dropL | exact H.dropL.drop | exact H.dropL.dropL | exact H.dropMid) (fun w H => Ev.fieldAddr (o := 0) rfl (by kernel_rfl)) rfl ?_
    refine OpsD.take 3 rfl (by kernel_rfl) (by first | exact H | exact H.drop | exact H.drop.drop | exact H.dropL | exact H.drop.dropL | exact H.dropL.drop | exact H.dropL.dropL | exact H.dropMid) (fun w H => Ev.load (v := .map (some m)) H rfl (by kernel_rfl) (Rd.mk m1 rfl)) rfl ?_
    refine OpsD.take 4 rfl (by kernel_rfl) (by first | exact H | exact H.drop | exact H.drop.drop | exact H.dropL | exact H.drop.dropL | exact H.dropL.drop | exact H.dropL.dropL | exact H.dropMid) (fun w H => Ev.loadBlk (n := 32) (vs := gH h) H rfl (by kernel_rfl) (gH_len h) m0) rfl ?_
    refine OpsD.take 5 rfl (by kernel_rfl) (by first | exact H | exact H.drop | exact H.drop.drop | exact H.dropL | exact H.drop.dropL | exact H.dropL.drop | exact H.dropL.dropL | exact H.dropMid) (fun w H => Ev.lookup H mapT rfl rfl m2 (ents_len hes) h.2 (by kernel_rfl) hv0 hv1) rfl ?_
    refine OpsD.one 6 (by kernel_rfl) (StepD.ex rfl (Ex.call rfl Tryd.call30 (wclone_spec v _ (by omega) w _ (hv _ fun p hp => .tail _ (.tail _ (.tail _ (List.mem_append_left _ hp)))) H)) rfl ?_); (try clear H); rintro _ w ⟨B, hs', H⟩; refine ⟨(by first | exact H | exact H.drop | exact H.drop.drop | exact H.dropL | exact H.drop.dropL | exact H.dropL.drop | exact H.dropL.dropL | exact H.dropMid), ?_⟩
    refine OpsD.take 7 rfl (by kernel_rfl) (by first | exact H | exact H.drop | exact H.drop.drop | exact H.dropL | exact H.drop.dropL | exact H.dropL.drop | exact H.dropL.dropL | exact H.dropMid) (fun w H => Ev.assign rfl) rfl ?_
    refine OpsD.done (by kernel_rfl) ?_
    repeat (first | refine RunsE.seq ?_ | refine RunsE.skip ?_ | refine RunsE.block ?_ | refine RunsE.inBlock ?_ | refine RunsE.yes rfl ?_ | refine RunsE.no rfl ?_ | refine RunsE.exit rfl ?_)
    exact RunsE.ret1 Tryd.func14 rfl rfl ⟨B, hs', by simp only [List.cons_append, List.append_assoc]; exact H.dropMid⟩

end Go.Proofs.YtniihnncgblocaaDoor
