/-
  The book: Sign.
-/
import Derived.Test.YtniihnncgblocaaDoorOathD
namespace Go.Proofs.YtniihnncgblocaaDoor.V

/-- An error, by its number; the type T. -/
def ErrN (T : TypeId) : Nat → Value
  | 0 => .nilIface
  | n + 1 => .iface T (.int .i64 ((n + 1 : Nat) : Int))

theorem perm_out {X C Bi C0 R : List (Nat × Obj)} (hC : C.Perm (Bi ++ C0)) : (X ++ (C ++ R)).Perm (Bi ++ (X ++ (C0 ++ R))) :=
  ((hC.append_right R).append_left X).trans (by rw [List.append_assoc]; exact perm_in X Bi _)

theorem perm_turn {X B C C0 D Di D0 F : List (Nat × Obj)} (hC : C.Perm (B ++ C0)) (hD : D.Perm (Di ++ D0)) : (Di ++ (X ++ (D0 ++ (C ++ F)))).Perm (B ++ (X ++ (C0 ++ (D ++ F)))) :=
  ((perm_out (X := X) (R := C ++ F) hD).symm.trans ((perm_in D C F).append_left X)).trans (perm_out hC)

/-- A map's entries: who signed what. -/
structure Ents (T : TypeId) (L : List Sg) (es : List Ent) (C : List (Nat × Obj)) : Prop where
  of :: ex : ∃ hs, Many (EntR T) es hs C ∧ (es.map (·.1)).Nodup ∧ (∀ p ∈ hs, p.2 = whoOf L p.1) ∧ ∀ h : Hash, (∀ p ∈ hs, p.1 ≠ h) → whoOf L h = []

/-- One sum's row, taken out. -/
theorem Ents.take {T : TypeId} {L : List Sg} {es : List Ent} {C : List (Nat × Obj)} (hE : Ents T L es C) (h : Hash) (L' : List Sg) (hL' : ∀ h', h' ≠ h → whoOf L' h' = whoOf L h') :
    ∃ v Bi C0, C.Perm (Bi ++ C0) ∧ Slc gW 1 T v (whoOf L h) Bi ∧ ((∀ x ∈ es, x.1 ≠ h.1) → v = .slice none 0 0) ∧ (∀ (j : Nat) x, es[j]? = some x → x.1 = h.1 → v = x.2.1) ∧
      ∀ v' Bi', Slc gW 1 T v' (whoOf L' h) Bi' → ((∀ x ∈ es, x.1 ≠ h.1) → ∀ clock, ∃ C', C'.Perm (Bi' ++ C0) ∧ Ents T L' (es ++ [(h.1, v', clock)]) C') ∧
        ∀ (j : Nat) x, es[j]? = some x → x.1 = h.1 → ∃ C', C'.Perm (Bi' ++ C0) ∧ Ents T L' (es.set j (h.1, v', x.2.2)) C' := by
  obtain ⟨hs, hes, hd, hw, hall⟩ := hE.ex
  by_cases hf : ∃ (j : Nat) (x : Ent), es[j]? = some x ∧ x.1 = h.1
  · obtain ⟨j, x, hj, hx⟩ := hf
    have huniq : ∀ (j' : Nat) (x' : Ent), es[j']? = some x' → x'.1 = h.1 → j' = j ∧ x' = x := fun j' x' hj' hx' => by
      have e1 : (es.map (·.1))[j]? = some h.1 := by rw [List.getElem?_map, hj]; simp [hx]
      have e2 : (es.map (·.1))[j']? = some h.1 := by rw [List.getElem?_map, hj']; simp [hx']
      have := nodup_idx hd e1 e2
      subst this
      rw [hj] at hj'
      exact ⟨rfl, (Option.some.inj hj').symm⟩
    obtain ⟨p, B1, Bi, B2, hp, rfl, ⟨hr1, hr2⟩, hset⟩ := hes.at hj
    have hph : p.1 = h := Subtype.ext (hr1.symm.trans hx)
    have hpw := hw p (List.mem_of_getElem? hp)
    rw [hph] at hpw
    rw [hpw] at hr2
    refine ⟨x.2.1, Bi, B1 ++ B2, perm_in B1 Bi B2, hr2, fun hn => absurd hx (hn x (List.mem_of_getElem? hj)), fun j' x' hj' hx' => by rw [(huniq j' x' hj' hx').2], fun v' Bi' hv' => ⟨fun hn => absurd hx (hn x (List.mem_of_getElem? hj)), fun j' x' hj' hx' => ?_⟩⟩
    obtain ⟨rfl, rfl⟩ := huniq j' x' hj' hx'
    refine ⟨B1 ++ (Bi' ++ B2), perm_in B1 Bi' B2, .of ⟨hs.set j' (h, whoOf L' h), hset (h.1, v', x'.2.2) (h, whoOf L' h) Bi' ⟨rfl, hv'⟩, ?_, fun q hq => ?_, fun h' hh' => ?_⟩⟩
    · have e1 : (es.set j' (h.1, v', x'.2.2)).map (·.1) = es.map (·.1) := by
        rw [List.map_set]
        apply List.ext_getElem?
        intro i
        rw [List.getElem?_set]
        split
        · rename_i hi
          subst hi
          rw [List.getElem?_map, hj]
          split
          · simp [hx]
          · rename_i hlt
            rw [List.length_map] at hlt
            rw [List.getElem?_eq_none (by omega)] at hj
            cases hj
        · rfl
      rw [e1]
      exact hd
    · obtain ⟨i, hi⟩ := List.getElem?_of_mem hq
      rw [List.getElem?_set] at hi
      split at hi
      · split at hi
        · rw [← Option.some.inj hi]
        · cases hi
      · rename_i hij
        have hqm : q ∈ hs := List.mem_of_getElem? hi
        rw [hw q hqm]
        refine (hL' _ fun he => ?_).symm
        have hlen := hes.length
        have hil : i < es.length := by
          rcases Nat.lt_or_ge i es.length with h | h
          · exact h
          · rw [List.getElem?_eq_none (by omega)] at hi; cases hi
        obtain ⟨q', _, _, _, hq', _, ⟨hk, _⟩, _⟩ := hes.at (i := i) (a := es[i]) (by simp [hil])
        rw [hi] at hq'
        obtain rfl := Option.some.inj hq'
        have := (huniq i es[i] (by simp [hil]) (by rw [hk, he])).1
        omega
    · have hne : h' ≠ h := fun he => by
        subst he
        have hjl : j' < hs.length := by
          rcases Nat.lt_or_ge j' hs.length with h | h
          · exact h
          · rw [List.getElem?_eq_none h] at hp; cases hp
        exact hh' (h', whoOf L' h') (List.mem_of_getElem? (i := j') (by rw [List.getElem?_set]; simp [hjl])) rfl
      rw [hL' _ hne]
      refine hall h' fun q hq he => ?_
      obtain ⟨i, hi⟩ := List.getElem?_of_mem hq
      have hij : j' ≠ i := by
        rintro rfl
        rw [hp] at hi
        rw [Option.some.inj hi] at hph
        exact hne (he.symm.trans hph)
      exact hh' q (List.mem_of_getElem? (i := i) (by rw [List.getElem?_set, if_neg hij]; exact hi)) he
  · have hno : ∀ x ∈ es, x.1 ≠ h.1 := fun x hx he => by
      obtain ⟨j, hj⟩ := List.getElem?_of_mem hx
      exact hf ⟨j, x, hj, he⟩
    have hnp : ∀ p ∈ hs, p.1 ≠ h := fun p hp he => by
      obtain ⟨e, he1, _, hr, _⟩ := hes.mem p hp
      exact hno e he1 (by rw [hr, he])
    have hw0 : whoOf L h = [] := hall h hnp
    refine ⟨.slice none 0 0, [], C, .refl _, by rw [hw0]; exact .nil, fun _ => rfl, fun j x hj hx => absurd hx (hno x (List.mem_of_getElem? hj)), fun v' Bi' hv' => ⟨fun _ clock => ?_, fun j x hj hx => absurd hx (hno x (List.mem_of_getElem? hj))⟩⟩
    refine ⟨C ++ Bi', List.perm_append_comm, .of ⟨hs ++ [(h, whoOf L' h)], hes.push ⟨rfl, hv'⟩, ?_, fun q hq => ?_, fun h' hh' => ?_⟩⟩
    · rw [List.map_append, List.nodup_append]
      refine ⟨hd, by simp, fun a ha b hb => ?_⟩
      simp only [List.map_cons, List.map_nil, List.mem_singleton] at hb
      subst hb
      obtain ⟨x, hx, rfl⟩ := List.mem_map.1 ha
      exact hno x hx
    · rcases List.mem_append.1 hq with hq | hq
      · rw [hw q hq]
        exact (hL' _ (hnp q hq)).symm
      · obtain rfl := List.mem_singleton.1 hq; rfl
    · have hne : h ≠ h' := hh' (h, _) (List.mem_append_right _ (.head _))
      rw [hL' _ hne.symm]
      exact hall h' fun q hq => hh' q (List.mem_append_left _ hq)

/-- One party's row, taken out. -/
theorem sums_take {T : TypeId} {L : List Sg} {us : List Value} {D : List (Nat × Obj)} (hus : Many (SumR T) us ((List.range 16).map fun k : Nat => sumsZ L (k : Int)) D) {k : Nat} (hk : k < 16) (h : Hash) :
    ∃ u Di D0, us[k]? = some u ∧ D.Perm (Di ++ D0) ∧ Slc gH 32 T u (sumsZ L (k : Int)) Di ∧
      ∀ u' Di', Slc gH 32 T u' (sumsZ L (k : Int) ++ [h]) Di' → ∃ D', D'.Perm (Di' ++ D0) ∧ Many (SumR T) (us.set k u') ((List.range 16).map fun k' : Nat => sumsZ (L ++ [(k, h)]) (k' : Int)) D' := by
  have hul : us.length = 16 := by rw [hus.length, List.length_map, List.length_range]
  obtain ⟨u, hu⟩ : ∃ u, us[k]? = some u := ⟨us[k]'(by omega), by simp [show k < us.length by omega]⟩
  obtain ⟨x, B1, Bi, B2, hx, rfl, hr, hset⟩ := hus.at hu
  rw [List.getElem?_map, List.getElem?_range hk] at hx
  obtain rfl := Option.some.inj hx
  refine ⟨u, Bi, B1 ++ B2, hu, perm_in B1 Bi B2, hr, fun u' Di' h' => ⟨B1 ++ (Di' ++ B2), perm_in B1 Di' B2, ?_⟩⟩
  have h2 := hset u' _ Di' h'
  have e1 : ((List.range 16).map fun k : Nat => sumsZ L (k : Int)).set k (sumsZ L (k : Int) ++ [h]) = (List.range 16).map fun k' : Nat => sumsZ (L ++ [(k, h)]) (k' : Int) := by
    apply List.ext_getElem?
    intro i
    rw [List.getElem?_set, List.getElem?_map]
    by_cases hi : i < 16
    · rw [List.getElem?_map, List.getElem?_range hi]
      simp only [Option.map_some]
      rw [sumsZ_app]
      by_cases hki : k = i
      · subst hki
        simp [hk]
      · rw [if_neg hki, if_neg (by simp only; omega)]
    · rw [List.getElem?_map, List.getElem?_eq_none (by simp; omega)]
      simp only [Option.map_none]
      rw [if_neg (by omega)]
  rw [← e1]
  exact h2

end Go.Proofs.YtniihnncgblocaaDoor.V
namespace Go.Proofs.YtniihnncgblocaaDoor
open Go.Proofs.YtniihnncgblocaaDoor.V

abbrev EN (n : Nat) : Value := ErrN 59 n

theorem BookH.of {b m clock : Nat} {L : List Sg} {es : List Ent} {us : List Value} {C D : List (Nat × Obj)} (hE : Ents 3 L es C) (hus : Many (SumR 25) us ((List.range 16).map fun k : Nat => sumsZ L (k : Int)) D) (hb : Borns es clock) :
    BookH b L ((b, bookO m us) :: (m, mapO es clock) :: (C ++ D)) := by
  obtain ⟨hs, hes, hd, hw, hall⟩ := hE.ex
  exact .mk m clock es us hs C D hes hus hd hw hall hb

theorem nsign_spec [Strm] (z : Int) (h : Hash) (w : World) (F : List (Nat × Obj)) (H : SL w F) : Does Tryd.prog 12 #[.pointer none, .int .i64 z, hV h.1] w fun r w' => r = EN 1 ∧ SL w' F := by
  refine Does.intro (args := [_, _, _]) (e := [(0, _), (1, _), (2, _)]) Tryd.func12 rfl Tryd.ntmps12 rfl rfl ?_
  repeat (first | refine RunsE.seq ?_ | refine RunsE.skip ?_ | refine RunsE.block ?_ | refine RunsE.inBlock ?_ | refine RunsE.yes rfl ?_ | refine RunsE.no rfl ?_ | refine RunsE.exit rfl ?_)
  repeat (first | refine RunsE.seq ?_ | refine RunsE.skip ?_ | refine RunsE.block ?_ | refine RunsE.inBlock ?_ | refine RunsE.yes rfl ?_ | refine RunsE.no rfl ?_ | refine RunsE.exit rfl ?_)
  refine RunsE.region ?_
  refine OpsE.ex (Ex.box H rfl) rfl ?_; (try clear H); rintro _ w ⟨b5, rfl, H⟩; simp only [Value.cells] at H
  refine OpsE.ev (Ev.assign rfl) rfl ?_
  refine OpsE.nil ?_
  repeat (first | refine RunsE.seq ?_ | refine RunsE.skip ?_ | refine RunsE.block ?_ | refine RunsE.inBlock ?_ | refine RunsE.yes rfl ?_ | refine RunsE.no rfl ?_ | refine RunsE.exit rfl ?_)
  refine RunsE.region ?_
  refine OpsE.ev (Ev.move rfl) rfl ?_
  refine OpsE.ev (Ev.ptrNilEq (el := 58) rfl rfl (by kernel_rfl)) rfl ?_
  refine OpsE.ev (Ev.assign rfl) rfl ?_
  refine OpsE.nil ?_
  repeat (first | refine RunsE.seq ?_ | refine RunsE.skip ?_ | refine RunsE.block ?_ | refine RunsE.inBlock ?_ | refine RunsE.yes rfl ?_ | refine RunsE.no rfl ?_ | refine RunsE.exit rfl ?_)
  refine RunsE.region ?_
  refine OpsE.ev (Ev.makeInterface (d := (.int .i64)) rfl (by kernel_rfl) rfl) rfl ?_
  refine OpsE.ev (Ev.assign rfl) rfl ?_
  refine OpsE.nil ?_
  repeat (first | refine RunsE.seq ?_ | refine RunsE.skip ?_ | refine RunsE.block ?_ | refine RunsE.inBlock ?_ | refine RunsE.yes rfl ?_ | refine RunsE.no rfl ?_ | refine RunsE.exit rfl ?_)
  exact RunsE.ret1 Tryd.func12 rfl rfl ⟨rfl, H.drop⟩

theorem sign_bad [Strm] (b : Nat) (z : Int) (hz : inZ z = false) (h : Hash) (w : World) (F : List (Nat × Obj)) (H : SL w F) : Does Tryd.prog 12 #[.pointer (some ⟨b, 0, none⟩), .int .i64 z, hV h.1] w fun r w' => r = EN 33 ∧ SL w' F := by
  have hz' := of_decide_eq_false hz
  refine Does.intro (args := [_, _, _]) (e := [(0, _), (1, _), (2, _)]) Tryd.func12 rfl Tryd.ntmps12 rfl rfl ?_
  repeat (first | refine RunsE.seq ?_ | refine RunsE.skip ?_ | refine RunsE.block ?_ | refine RunsE.inBlock ?_ | refine RunsE.yes rfl ?_ | refine RunsE.no rfl ?_ | refine RunsE.exit rfl ?_)
  repeat (first | refine RunsE.seq ?_ | refine RunsE.skip ?_ | refine RunsE.block ?_ | refine RunsE.inBlock ?_ | refine RunsE.yes rfl ?_ | refine RunsE.no rfl ?_ | refine RunsE.exit rfl ?_)
  refine RunsE.region ?_
  refine OpsE.ex (Ex.box H rfl) rfl ?_; (try clear H); rintro _ w ⟨b5, rfl, H⟩; simp only [Value.cells] at H
  refine OpsE.ev (Ev.assign rfl) rfl ?_
  refine OpsE.nil ?_
  repeat (first | refine RunsE.seq ?_ | refine RunsE.skip ?_ | refine RunsE.block ?_ | refine RunsE.inBlock ?_ | refine RunsE.yes rfl ?_ | refine RunsE.no rfl ?_ | refine RunsE.exit rfl ?_)
  refine RunsE.region ?_
  refine OpsE.ev (Ev.move rfl) rfl ?_
  refine OpsE.ev (Ev.ptrNilEq (el := 58) rfl rfl (by kernel_rfl)) rfl ?_
  refine OpsE.ev (Ev.assign rfl) rfl ?_
  refine OpsE.nil ?_
  by_cases h1 : z < 0
  ·
    repeat (first | refine RunsE.seq ?_ | refine RunsE.skip ?_ | refine RunsE.block ?_ | refine RunsE.inBlock ?_ | refine RunsE.yes rfl ?_ | refine RunsE.no rfl ?_ | refine RunsE.exit rfl ?_)
    refine RunsE.region ?_
    refine OpsE.ev (Ev.move rfl) rfl ?_
    refine OpsE.ev (Ev.lss (r := true) rfl rfl (decide_eq_true h1)) rfl ?_
    refine OpsE.ev (Ev.move rfl) rfl ?_
    first | (refine OpsE.yes rfl rfl ?_; refine OpsE.ev (Ev.move rfl) rfl ?_) | refine OpsE.no rfl rfl rfl ?_ | refine OpsE.off rfl rfl rfl ?_
    first | (refine OpsE.yes rfl rfl ?_; refine OpsE.ev (Ev.geq rfl rfl) rfl ?_) | refine OpsE.no rfl rfl rfl ?_ | refine OpsE.off rfl rfl rfl ?_
    refine OpsE.ev ((by first | exact Ev.pickT rfl rfl | exact Ev.pickF rfl rfl)) rfl ?_
    refine OpsE.ev (Ev.assign rfl) rfl ?_
    refine OpsE.nil ?_
    repeat (first | refine RunsE.seq ?_ | refine RunsE.skip ?_ | refine RunsE.block ?_ | refine RunsE.inBlock ?_ | refine RunsE.yes rfl ?_ | refine RunsE.no rfl ?_ | refine RunsE.exit rfl ?_)
    refine RunsE.region ?_
    refine OpsE.ev (Ev.makeInterface (d := (.int .i64)) rfl (by kernel_rfl) rfl) rfl ?_
    refine OpsE.ev (Ev.assign rfl) rfl ?_
    refine OpsE.nil ?_
    repeat (first | refine RunsE.seq ?_ | refine RunsE.skip ?_ | refine RunsE.block ?_ | refine RunsE.inBlock ?_ | refine RunsE.yes rfl ?_ | refine RunsE.no rfl ?_ | refine RunsE.exit rfl ?_)
    exact RunsE.ret1 Tryd.func12 rfl rfl ⟨rfl, H.drop⟩
  ·
    repeat (first | refine RunsE.seq ?_ | refine RunsE.skip ?_ | refine RunsE.block ?_ | refine RunsE.inBlock ?_ | refine RunsE.yes rfl ?_ | refine RunsE.no rfl ?_ | refine RunsE.exit rfl ?_)
    refine RunsE.region ?_
    refine OpsE.ev (Ev.move rfl) rfl ?_
    refine OpsE.ev (Ev.lss (r := false) rfl rfl (decide_eq_false h1)) rfl ?_
    refine OpsE.ev (Ev.move rfl) rfl ?_
    first | (refine OpsE.yes rfl rfl ?_; refine OpsE.ev (Ev.move rfl) rfl ?_) | refine OpsE.no rfl rfl rfl ?_ | refine OpsE.off rfl rfl rfl ?_
    first | (refine OpsE.yes rfl rfl ?_; refine OpsE.ev (Ev.geq (r := true) rfl rfl (decide_eq_true (by omega))) rfl ?_) | refine OpsE.no rfl rfl rfl ?_ | refine OpsE.off rfl rfl rfl ?_
    refine OpsE.ev ((by first | exact Ev.pickT rfl rfl | exact Ev.pickF rfl rfl)) rfl ?_
    refine OpsE.ev (Ev.assign rfl) rfl ?_
    refine OpsE.nil ?_
    repeat (first | refine RunsE.seq ?_ | refine RunsE.skip ?_ | refine RunsE.block ?_ | refine RunsE.inBlock ?_ | refine RunsE.yes rfl ?_ | refine RunsE.no rfl ?_ | refine RunsE.exit rfl ?_)
    refine RunsE.region ?_
    refine OpsE.ev (Ev.makeInterface (d := (.int .i64)) rfl (by kernel_rfl) rfl) rfl ?_
    refine OpsE.ev (Ev.assign rfl) rfl ?_
    refine OpsE.nil ?_
    repeat (first | refine RunsE.seq ?_ | refine RunsE.skip ?_ | refine RunsE.block ?_ | refine RunsE.inBlock ?_ | refine RunsE.yes rfl ?_ | refine RunsE.no rfl ?_ | refine RunsE.exit rfl ?_)
    exact RunsE.ret1 Tryd.func12 rfl rfl ⟨rfl, H.drop⟩

set_option maxHeartbeats 2000000 in
theorem sign_in [Strm] (b : Nat) (L : List Sg) (hL : Signs L) (hlen : L.length ≤ 1000) (k : Nat) (hk : k < 16) (h : Hash) (A : List (Nat × Obj)) (w : World) (F : List (Nat × Obj)) (hA : BookH b L A) (H : SL w (A ++ F)) :
    Does Tryd.prog 12 #[.pointer (some ⟨b, 0, none⟩), .int .i64 (k : Int), hV h.1] w fun r w' => ∃ A', r = .nilIface ∧ BookH b (addZ L (k : Int) h) A' ∧ SL w' (A' ++ F) := by
  have hl := whoOf_len L h
  have hsl := sumsZ_len L (k : Int)
  have hin : inZ (k : Int) = true := decide_eq_true (by omega)
  refine Does.intro (args := [_, _, _]) (e := [(0, _), (1, _), (2, _)]) Tryd.func12 rfl Tryd.ntmps12 rfl rfl ?_
  repeat (first | refine RunsE.seq ?_ | refine RunsE.skip ?_ | refine RunsE.block ?_ | refine RunsE.inBlock ?_ | refine RunsE.yes rfl ?_ | refine RunsE.no rfl ?_ | refine RunsE.exit rfl ?_)
  repeat (first | refine RunsE.seq ?_ | refine RunsE.skip ?_ | refine RunsE.block ?_ | refine RunsE.inBlock ?_ | refine RunsE.yes rfl ?_ | refine RunsE.no rfl ?_ | refine RunsE.exit rfl ?_)
  refine RunsE.region ?_
  refine OpsE.ex (Ex.box H rfl) rfl ?_; (try clear H); rintro _ w ⟨b5, rfl, H⟩; simp only [Value.cells] at H
  refine OpsE.ev (Ev.assign rfl) rfl ?_
  refine OpsE.nil ?_
  repeat (first | refine RunsE.seq ?_ | refine RunsE.skip ?_ | refine RunsE.block ?_ | refine RunsE.inBlock ?_ | refine RunsE.yes rfl ?_ | refine RunsE.no rfl ?_ | refine RunsE.exit rfl ?_)
  refine RunsE.region ?_
  refine OpsE.ev (Ev.move rfl) rfl ?_
  refine OpsE.ev (Ev.ptrNilEq (el := 58) rfl rfl (by kernel_rfl)) rfl ?_
  refine OpsE.ev (Ev.assign rfl) rfl ?_
  refine OpsE.nil ?_
  repeat (first | refine RunsE.seq ?_ | refine RunsE.skip ?_ | refine RunsE.block ?_ | refine RunsE.inBlock ?_ | refine RunsE.yes rfl ?_ | refine RunsE.no rfl ?_ | refine RunsE.exit rfl ?_)
  refine RunsE.region ?_
  refine OpsE.ev (Ev.move rfl) rfl ?_
  refine OpsE.ev (Ev.lss (r := false) rfl rfl (decide_eq_false (by omega))) rfl ?_
  refine OpsE.ev (Ev.move rfl) rfl ?_
  first | (refine OpsE.yes rfl rfl ?_; refine OpsE.ev (Ev.move rfl) rfl ?_) | refine OpsE.no rfl rfl rfl ?_ | refine OpsE.off rfl rfl rfl ?_
  first | (refine OpsE.yes rfl rfl ?_; refine OpsE.ev (Ev.geq (r := false) rfl rfl (decide_eq_false (by omega))) rfl ?_) | refine OpsE.no rfl rfl rfl ?_ | refine OpsE.off rfl rfl rfl ?_
  refine OpsE.ev ((by first | exact Ev.pickT rfl rfl | exact Ev.pickF rfl rfl)) rfl ?_
  refine OpsE.ev (Ev.assign rfl) rfl ?_
  refine OpsE.nil ?_
  repeat (first | refine RunsE.seq ?_ | refine RunsE.skip ?_ | refine RunsE.block ?_ | refine RunsE.inBlock ?_ | refine RunsE.yes rfl ?_ | refine RunsE.no rfl ?_ | refine RunsE.exit rfl ?_)
  cases hA with
  | mk m clock es us hs C D hes hus hd hw hall hb =>
    obtain ⟨v, hv, hv0, hv1⟩ := ents_val hes hd hw hall h
    simp only [List.cons_append, List.append_assoc] at H
    repeat (first | refine RunsE.seq ?_ | refine RunsE.skip ?_ | refine RunsE.block ?_ | refine RunsE.inBlock ?_ | refine RunsE.yes rfl ?_ | refine RunsE.no rfl ?_ | refine RunsE.exit rfl ?_)
    refine RunsE.drawS H [] (by kernel_rfl) ?_; (try clear H); intro w H
    refine OpsD.take 0 rfl (by kernel_rfl) (by first | exact H | exact H.drop | exact H.drop.drop | exact H.dropL | exact H.drop.dropL | exact H.dropL.drop | exact H.dropL.dropL | exact H.dropMid) (fun w H => Ev.move rfl) rfl ?_
    refine OpsD.take 1 rfl (by kernel_rfl) (by first | exact H | exact H.drop | exact H.drop.drop | exact H.dropL | exact H.drop.dropL | exact H.dropL.drop | exact H.dropL.dropL | exact H.dropMid) (fun w H => Ev.nilCheck rfl) rfl ?_
    refine OpsD.take 2 rfl (by kernel_rfl) (by first | exact H | exact H.drop | exact H.drop.drop | exact H.dropL | exact H.drop.dropL | exact H.dropL.drop | exact H.dropL.dropL | exact H.dropMid) (fun w H => Ev.fieldAddr (o := 0) rfl (by kernel_rfl)) rfl ?_
    refine OpsD.take 3 rfl (by kernel_rfl) (by first | exact H | exact H.drop | exact H.drop.drop | exact H.dropL | exact H.drop.dropL | exact H.dropL.drop | exact H.dropL.dropL | exact H.dropMid) (fun w H => Ev.load (v := .map (some m)) H rfl (by kernel_rfl) (Rd.mk m1 rfl)) rfl ?_
    refine OpsD.take 4 rfl (by kernel_rfl) (by first | exact H | exact H.drop | exact H.drop.drop | exact H.dropL | exact H.drop.dropL | exact H.dropL.drop | exact H.dropL.dropL | exact H.dropMid) (fun w H => Ev.loadBlk (n := 32) (vs := gH h) H rfl (by kernel_rfl) (gH_len h) m0) rfl ?_
    refine OpsD.take 5 rfl (by kernel_rfl) (by first | exact H | exact H.drop | exact H.drop.drop | exact H.dropL | exact H.drop.dropL | exact H.dropL.drop | exact H.dropL.dropL | exact H.dropMid) (fun w H => Ev.lookup H mapT rfl rfl m2 (ents_len hes) h.2 (by kernel_rfl) hv0 hv1) rfl ?_
    refine OpsD.take 6 rfl (by kernel_rfl) (by first | exact H | exact H.drop | exact H.drop.drop | exact H.dropL | exact H.drop.dropL | exact H.dropL.drop | exact H.dropL.dropL | exact H.dropMid) (fun w H => Ev.move rfl) rfl ?_
    refine OpsD.one 7 (by kernel_rfl) (StepD.ex rfl (Ex.call rfl Tryd.call28 (bsearch_spec v _ k (by omega) (by omega) (whoOf_sorted L h) w _ (hv _ fun p hp => .tail _ (.tail _ (.tail _ (List.mem_append_left _ hp)))) H)) rfl ?_); (try clear H); rintro _ w ⟨i, hi, hlo, hhi, rfl, H⟩; refine ⟨(by first | exact H | exact H.drop | exact H.drop.drop | exact H.dropL | exact H.drop.dropL | exact H.dropL.drop | exact H.dropL.dropL | exact H.dropMid), ?_⟩
    refine OpsD.take 8 rfl (by kernel_rfl) (by first | exact H | exact H.drop | exact H.drop.drop | exact H.dropL | exact H.drop.dropL | exact H.dropL.drop | exact H.dropL.dropL | exact H.dropMid) (fun w H => Ev.move rfl) rfl ?_
    refine OpsD.take 9 rfl (by kernel_rfl) (by first | exact H | exact H.drop | exact H.drop.drop | exact H.dropL | exact H.drop.dropL | exact H.dropL.drop | exact H.dropL.dropL | exact H.dropMid) (fun w H => Ev.extract rfl rfl) rfl ?_
    refine OpsD.take 10 rfl (by kernel_rfl) (by first | exact H | exact H.drop | exact H.drop.drop | exact H.dropL | exact H.drop.dropL | exact H.dropL.drop | exact H.dropL.dropL | exact H.dropMid) (fun w H => Ev.extract rfl rfl) rfl ?_
    refine OpsD.take 11 rfl (by kernel_rfl) (by first | exact H | exact H.drop | exact H.drop.drop | exact H.dropL | exact H.drop.dropL | exact H.dropL.drop | exact H.dropL.dropL | exact H.dropMid) (fun w H => Ev.assign rfl) rfl ?_
    refine OpsD.take 12 rfl (by kernel_rfl) (by first | exact H | exact H.drop | exact H.drop.drop | exact H.dropL | exact H.drop.dropL | exact H.dropL.drop | exact H.dropL.dropL | exact H.dropMid) (fun w H => Ev.assign rfl) rfl ?_
    refine OpsD.done (by kernel_rfl) ?_
    by_cases hmem : k ∈ whoOf L h
    · have hz : hasZ L (k : Int) h = true := hasZ_mem.2 ((mem_whoOf hL).1 hmem)
      have e1 : addZ L (k : Int) h = L := by unfold addZ; rw [if_neg (by rw [hz]; simp)]
      rw [e1]
      repeat (first | refine RunsE.seq ?_ | refine RunsE.skip ?_ | refine RunsE.block ?_ | refine RunsE.inBlock ?_ | refine RunsE.yes rfl ?_ | refine RunsE.no rfl ?_ | refine RunsE.exit rfl ?_)
      refine RunsE.region ?_
      refine OpsE.ev (Ev.move rfl) rfl ?_
      refine OpsE.ev (Ev.not (r := true) (congrArg (fun r => some (Value.bool r)) (decide_eq_true hmem))) rfl ?_
      refine OpsE.nil ?_
      repeat (first | refine RunsE.seq ?_ | refine RunsE.skip ?_ | refine RunsE.block ?_ | refine RunsE.inBlock ?_ | refine RunsE.yes rfl ?_ | refine RunsE.no rfl ?_ | refine RunsE.exit rfl ?_)
      refine RunsE.region ?_
      refine OpsE.ev (Ev.assign rfl) rfl ?_
      refine OpsE.nil ?_
      repeat (first | refine RunsE.seq ?_ | refine RunsE.skip ?_ | refine RunsE.block ?_ | refine RunsE.inBlock ?_ | refine RunsE.yes rfl ?_ | refine RunsE.no rfl ?_ | refine RunsE.exit rfl ?_)
      exact RunsE.ret1 Tryd.func12 rfl rfl ⟨_, rfl, .mk m clock es us hs C D hes hus hd hw hall hb, by simp only [List.cons_append, List.append_assoc]; exact H.drop⟩
    have hz : hasZ L (k : Int) h = false := by
      rw [Bool.eq_false_iff]
      exact fun hc => hmem ((mem_whoOf hL).2 (hasZ_mem.1 hc))
    have e1 : addZ L (k : Int) h = L ++ [(k, h)] := by unfold addZ; rw [if_pos ⟨hin, hz⟩, Int.toNat_natCast]
    have hins := whoOf_ins hk hz hi hlo hhi
    clear hv hv0 hv1
    obtain ⟨v, Bi, C0, hCp, hsv, hv0, hv1, hback⟩ := Ents.take (.of ⟨hs, hes, hd, hw, hall⟩) h (addZ L (k : Int) h) fun h' hne => whoOf_other hne.symm
    obtain ⟨u, Di, D0, hu, hDp, hsu, hback2⟩ := sums_take hus hk h
    have hkeys := ents_len hes
    have hul : us.length = 16 := by rw [hus.length, List.length_map, List.length_range]
    have hp : ((b5, Obj.cells (gH h).toArray 25 (0, 0)) :: (b, bookO m us) :: (m, mapO es clock) :: (C ++ (D ++ F))).Perm (Bi ++ ((b5, Obj.cells (gH h).toArray 25 (0, 0)) :: (b, bookO m us) :: (m, mapO es clock) :: (C0 ++ (D ++ F)))) := perm_out (X := [_, _, _]) hCp
    replace H := H.perm hp.symm
    repeat (first | refine RunsE.seq ?_ | refine RunsE.skip ?_ | refine RunsE.block ?_ | refine RunsE.inBlock ?_ | refine RunsE.yes rfl ?_ | refine RunsE.no rfl ?_ | refine RunsE.exit rfl ?_)
    refine RunsE.region ?_
    refine OpsE.ev (Ev.move rfl) rfl ?_
    refine OpsE.ev (Ev.not (r := false) (congrArg (fun r => some (Value.bool r)) (decide_eq_false hmem))) rfl ?_
    refine OpsE.nil ?_
    repeat (first | refine RunsE.seq ?_ | refine RunsE.skip ?_ | refine RunsE.block ?_ | refine RunsE.inBlock ?_ | refine RunsE.yes rfl ?_ | refine RunsE.no rfl ?_ | refine RunsE.exit rfl ?_)
    repeat (first | refine RunsE.seq ?_ | refine RunsE.skip ?_ | refine RunsE.block ?_ | refine RunsE.inBlock ?_ | refine RunsE.yes rfl ?_ | refine RunsE.no rfl ?_ | refine RunsE.exit rfl ?_)
    refine RunsE.drawSub (L' := (b5, Obj.cells (gH h).toArray 25 (0, 0)) :: (b, bookO m us) :: (m, mapO es clock) :: (C0 ++ (D ++ F))) H (fun w H => H.dropL) [15] (by kernel_rfl) ?_; (try clear H); intro w H
    refine OpsD.take 0 rfl (by kernel_rfl) (by first | exact H | exact H.drop | exact H.drop.drop | exact H.dropL | exact H.drop.dropL | exact H.dropL.drop | exact H.dropL.dropL | exact H.dropMid) (fun w H => Ev.move rfl) rfl ?_
    refine OpsD.take 1 rfl (by kernel_rfl) (by first | exact H | exact H.drop | exact H.drop.drop | exact H.dropL | exact H.drop.dropL | exact H.dropL.drop | exact H.dropL.dropL | exact H.dropMid) (fun w H => Ev.nilCheck rfl) rfl ?_
    refine OpsD.take 2 rfl (by kernel_rfl) (by first | exact H | exact H.drop | exact H.drop.drop | exact H.dropL | exact H.drop.dropL | exact H.dropL.drop | exact H.dropL.dropL | exact H.dropMid) (fun w H => Ev.fieldAddr (o := 0) rfl (by kernel_rfl)) rfl ?_
    refine OpsD.take 3 rfl (by kernel_rfl) (by first | exact H | exact H.drop | exact H.drop.drop | exact H.dropL | exact H.drop.dropL | exact H.dropL.drop | exact H.dropL.dropL | exact H.dropMid) (fun w H => Ev.load (v := .map (some m)) H rfl (by kernel_rfl) (Rd.mk m1 rfl)) rfl ?_
    refine OpsD.take 4 rfl (by kernel_rfl) (by first | exact H | exact H.drop | exact H.drop.drop | exact H.dropL | exact H.drop.dropL | exact H.dropL.drop | exact H.dropL.dropL | exact H.dropMid) (fun w H => Ev.loadBlk (n := 32) (vs := gH h) H rfl (by kernel_rfl) (gH_len h) m0) rfl ?_
    refine OpsD.take 5 rfl (by kernel_rfl) (by first | exact H | exact H.drop | exact H.drop.drop | exact H.dropL | exact H.drop.dropL | exact H.dropL.drop | exact H.dropL.dropL | exact H.dropMid) (fun w H => Ev.move rfl) rfl ?_
    refine OpsD.take 6 rfl (by kernel_rfl) (by first | exact H | exact H.drop | exact H.drop.drop | exact H.dropL | exact H.drop.dropL | exact H.dropL.drop | exact H.dropL.dropL | exact H.dropMid) (fun w H => Ev.nilCheck rfl) rfl ?_
    refine OpsD.take 7 rfl (by kernel_rfl) (by first | exact H | exact H.drop | exact H.drop.drop | exact H.dropL | exact H.drop.dropL | exact H.dropL.drop | exact H.dropL.dropL | exact H.dropMid) (fun w H => Ev.fieldAddr (o := 0) rfl (by kernel_rfl)) rfl ?_
    refine OpsD.take 8 rfl (by kernel_rfl) (by first | exact H | exact H.drop | exact H.drop.drop | exact H.dropL | exact H.drop.dropL | exact H.dropL.drop | exact H.dropL.dropL | exact H.dropMid) (fun w H => Ev.load (v := .map (some m)) H rfl (by kernel_rfl) (Rd.mk m1 rfl)) rfl ?_
    refine OpsD.take 9 rfl (by kernel_rfl) (by first | exact H | exact H.drop | exact H.drop.drop | exact H.dropL | exact H.drop.dropL | exact H.dropL.drop | exact H.dropL.dropL | exact H.dropMid) (fun w H => Ev.loadBlk (n := 32) (vs := gH h) H rfl (by kernel_rfl) (gH_len h) m0) rfl ?_
    refine OpsD.take 10 rfl (by kernel_rfl) (by first | exact H | exact H.drop | exact H.drop.drop | exact H.dropL | exact H.drop.dropL | exact H.dropL.drop | exact H.dropL.dropL | exact H.dropMid) (fun w H => Ev.lookup H mapT rfl rfl m2 hkeys h.2 (by kernel_rfl) hv0 hv1) rfl ?_
    refine OpsD.take 11 rfl (by kernel_rfl) (by first | exact H | exact H.drop | exact H.drop.drop | exact H.dropL | exact H.drop.dropL | exact H.dropL.drop | exact H.dropL.dropL | exact H.dropMid) (fun w H => Ev.move rfl) rfl ?_
    refine OpsD.take 12 rfl (by kernel_rfl) (by first | exact H | exact H.drop | exact H.drop.drop | exact H.dropL | exact H.drop.dropL | exact H.dropL.drop | exact H.dropL.dropL | exact H.dropMid) (fun w H => Ev.move rfl) rfl ?_
    refine OpsD.one 13 (by kernel_rfl) (StepD.ex rfl (Ex.buildSl (T := 3) (zv := .int .i64 0) H rfl (by kernel_rfl) (by kernel_rfl) (by simp [Value.oneCell']) rfl (by omega) (by omega)) rfl ?_); (try clear H); rintro _ w ⟨b47, rfl, H⟩; refine ⟨(by first | exact H | exact H.drop | exact H.drop.drop | exact H.dropL | exact H.drop.dropL | exact H.dropL.drop | exact H.dropL.dropL | exact H.dropMid), ?_⟩
    refine OpsD.one 14 (by kernel_rfl) (StepD.ex rfl (Ex.call rfl Tryd.call29 (insert_spec v _ i k _ hi (by omega) w _ _ hsv H.headL)) rfl ?_); (try clear H); rintro v' w ⟨B', hs', H⟩; rw [hins] at hs'; refine ⟨(by first | exact H | exact H.drop | exact H.drop.drop | exact H.dropL | exact H.drop.dropL | exact H.dropL.drop | exact H.dropL.dropL | exact H.dropMid), ?_⟩
    refine OpsD.one 15 (by kernel_rfl) (StepD.exnT rfl rfl (Ex.mapUpdate (M := fun o => B' ++ ((b5, Obj.cells (gH h).toArray 25 (0, 0)) :: (b, bookO m us) :: (m, o) :: (C0 ++ (D ++ F)))) H mapT rfl rfl rfl (fun o' => Upd.skip (.tail (.tail .head)) B') hkeys h.2) ?_); intro _ w hM
    refine OpsD.done (by kernel_rfl) ?_
    obtain ⟨es', clock', C', hCp', hE', hb', H⟩ : ∃ es' clock' C', C'.Perm (B' ++ C0) ∧ Ents 3 (addZ L (k : Int) h) es' C' ∧ Borns es' clock' ∧ SL w (B' ++ ((b5, Obj.cells (gH h).toArray 25 (0, 0)) :: (b, bookO m us) :: (m, mapO es' clock') :: (C0 ++ (D ++ F)))) := by
      rcases hM with ⟨hn, H⟩ | ⟨j, x, hj, hx, H⟩
      · obtain ⟨C', h1, h2⟩ := (hback v' B' hs').1 hn clock
        exact ⟨_, _, C', h1, h2, hb.push _ _, H⟩
      · obtain ⟨C', h1, h2⟩ := (hback v' B' hs').2 j x hj hx
        exact ⟨_, _, C', h1, h2, hb.set hj _ _, H⟩
    clear hM
    replace H : SL w (Di ++ ((b5, Obj.cells (gH h).toArray 25 (0, 0)) :: (b, bookO m us) :: (m, mapO es' clock') :: (D0 ++ (C' ++ F)))) := H.perm (perm_turn (X := [_, _, _]) hCp' hDp)
    have hfl : [h].flatMap gH = gH h := by simp
    repeat (first | refine RunsE.seq ?_ | refine RunsE.skip ?_ | refine RunsE.block ?_ | refine RunsE.inBlock ?_ | refine RunsE.yes rfl ?_ | refine RunsE.no rfl ?_ | refine RunsE.exit rfl ?_)
    refine RunsE.drawS H [10, 14] (by kernel_rfl) ?_; (try clear H); intro w H
    refine OpsD.takeU 0 rfl (by kernel_rfl) (fun w => Ev.move rfl) rfl ?_
    refine OpsD.takeU 1 rfl (by kernel_rfl) (fun w => Ev.move rfl) rfl ?_
    refine OpsD.take 2 rfl (by kernel_rfl) (by first | exact H | exact H.drop | exact H.drop.drop | exact H.dropL | exact H.drop.dropL | exact H.dropL.drop | exact H.dropL.dropL | exact H.dropMid) (fun w H => Ev.move rfl) rfl ?_
    refine OpsD.take 3 rfl (by kernel_rfl) (by first | exact H | exact H.drop | exact H.drop.drop | exact H.dropL | exact H.drop.dropL | exact H.dropL.drop | exact H.dropL.dropL | exact H.dropMid) (fun w H => Ev.move rfl) rfl ?_
    refine OpsD.take 4 rfl (by kernel_rfl) (by first | exact H | exact H.drop | exact H.drop.drop | exact H.dropL | exact H.drop.dropL | exact H.dropL.drop | exact H.dropL.dropL | exact H.dropMid) (fun w H => Ev.nilCheck rfl) rfl ?_
    refine OpsD.take 5 rfl (by kernel_rfl) (by first | exact H | exact H.drop | exact H.drop.drop | exact H.dropL | exact H.drop.dropL | exact H.dropL.drop | exact H.dropL.dropL | exact H.dropMid) (fun w H => Ev.fieldAddr (o := 1) rfl (by kernel_rfl)) rfl ?_
    refine OpsD.take 6 rfl (by kernel_rfl) (by first | exact H | exact H.drop | exact H.drop.drop | exact H.dropL | exact H.drop.dropL | exact H.dropL.drop | exact H.dropL.dropL | exact H.dropMid) (fun w H => Ev.iaArr (n := 16) (sz := 1) (m := k) (o := 1 + k) rfl rfl rfl (by kernel_rfl) (by omega) (by omega)) rfl ?_
    refine OpsD.take 7 rfl (by kernel_rfl) (by first | exact H | exact H.drop | exact H.drop.drop | exact H.dropL | exact H.drop.dropL | exact H.dropL.drop | exact H.dropL.dropL | exact H.dropMid) (fun w H => Ev.load (v := u) H rfl (by kernel_rfl) (Rd.right (Rd.mk m1 (by rw [Nat.add_comm]; simpa using hu)))) rfl ?_
    refine OpsD.take 8 rfl (by kernel_rfl) (by first | exact H | exact H.drop | exact H.drop.drop | exact H.dropL | exact H.drop.dropL | exact H.dropL.drop | exact H.dropL.dropL | exact H.dropMid) (fun w H => Ev.loadBlk (n := 32) (vs := gH h) H rfl (by kernel_rfl) (gH_len h) (List.mem_append_right _ m0)) rfl ?_
    refine OpsD.takeU 11 rfl (by kernel_rfl) (fun w => Ev.nilCheck rfl) rfl ?_
    refine OpsD.takeU 12 rfl (by kernel_rfl) (fun w => Ev.fieldAddr (o := 1) rfl (by kernel_rfl)) rfl ?_
    refine OpsD.one 9 (by kernel_rfl) (StepD.ex rfl (Ex.buildOne (sz := 32) (cs := gH h) (T := 25) (zv := .agg (List.replicate 32 (.int .u8 0)).toArray) H rfl (by kernel_rfl) (by kernel_rfl) (gH_len h) (by omega) (by omega)) rfl ?_); (try clear H); rintro _ w ⟨b58, rfl, H⟩; refine ⟨(by first | exact H | exact H.drop | exact H.drop.drop | exact H.dropL | exact H.drop.dropL | exact H.dropL.drop | exact H.dropL.dropL | exact H.dropMid), ?_⟩
    refine OpsD.one 10 (by kernel_rfl) (StepD.exT rfl rfl (Ex.append (T := 25) (g := gH) (sz := 32) (by_ := 32) (zv := .agg (List.replicate 32 (.int .u8 0)).toArray) (xs := sumsZ L (k : Int)) (ys := [h]) H.headL rfl rfl hsu (by rw [hfl]; exact Src.row0 H m0 (gH_len h)) gH_len gH_one (by kernel_rfl) (by kernel_rfl) (by kernel_rfl) (by kernel_rfl) rfl (by simp only [List.length_singleton]; omega) (by simp only [List.length_singleton]; omega)) rfl ?_); (try clear H); rintro u' w ⟨Di', hs2, H⟩; obtain ⟨a', c', eu⟩ := hs2.len
    refine OpsD.takeU 13 rfl (by kernel_rfl) (fun w => Ev.iaArr (n := 16) (sz := 1) (m := k) (o := 1 + k) rfl rfl rfl (by kernel_rfl) (by omega) (by omega)) rfl ?_
    refine OpsD.one 14 (by kernel_rfl) (StepD.exnT rfl rfl (Ex.store1 (cs := (.map (some m) :: us).toArray) (cs' := (.map (some m) :: us.set k u').toArray) H rfl rfl (by kernel_rfl) (by rw [eu]; rfl) (Upd.skip (.tail (.tail .head)) Di') (by simp [hul]; omega) (Thaw.zero _ _) (by rw [Nat.add_comm]; simp)) ?_); (try clear H); intro _ w H
    refine OpsD.done (by kernel_rfl) ?_
    repeat (first | refine RunsE.seq ?_ | refine RunsE.skip ?_ | refine RunsE.block ?_ | refine RunsE.inBlock ?_ | refine RunsE.yes rfl ?_ | refine RunsE.no rfl ?_ | refine RunsE.exit rfl ?_)
    refine RunsE.region ?_
    refine OpsE.ev (Ev.assign rfl) rfl ?_
    refine OpsE.nil ?_
    repeat (first | refine RunsE.seq ?_ | refine RunsE.skip ?_ | refine RunsE.block ?_ | refine RunsE.inBlock ?_ | refine RunsE.yes rfl ?_ | refine RunsE.no rfl ?_ | refine RunsE.exit rfl ?_)
    obtain ⟨D', hDp', hus'⟩ := hback2 u' Di' hs2
    rw [← e1] at hus'
    refine RunsE.ret1 Tryd.func12 rfl rfl ⟨_, rfl, BookH.of (m := m) (clock := clock') hE' hus' hb', ?_⟩
    simp only [List.cons_append, List.append_assoc]
    exact H.dropMid.dropMid.perm ((((perm_in C' D' F).append_left [_, _])).trans (perm_out (X := [_, _]) hDp'))

/-- Sign, whoever signs. -/
theorem sign_spec [Strm] (b : Nat) (L : List Sg) (hL : Signs L) (hlen : L.length ≤ 1000) (z : Int) (h : Hash) (A : List (Nat × Obj)) (w : World) (F : List (Nat × Obj)) (hA : BookH b L A) (H : SL w (A ++ F)) :
    Does Tryd.prog 12 #[.pointer (some ⟨b, 0, none⟩), .int .i64 z, hV h.1] w fun r w' => ∃ A', r = EN (errZ z) ∧ BookH b (addZ L z h) A' ∧ SL w' (A' ++ F) := by
  cases hz : inZ z with
  | false =>
    have e1 : addZ L z h = L := by unfold addZ; rw [if_neg (by rw [hz]; simp)]
    have e2 : errZ z = 33 := by unfold errZ; rw [if_neg (by rw [hz]; simp)]
    rw [e1, e2]
    exact (sign_bad b z hz h w _ H).mono fun r w' ⟨hr, H⟩ => ⟨A, hr, hA, H⟩
  | true =>
    have hz' := of_decide_eq_true hz
    obtain ⟨k, rfl⟩ : ∃ k : Nat, z = (k : Int) := ⟨z.toNat, by omega⟩
    have e2 : errZ (k : Int) = 0 := by unfold errZ; rw [if_pos hz]
    rw [e2]
    exact sign_in b L hL hlen k (by omega) h A w F hA H

end Go.Proofs.YtniihnncgblocaaDoor
