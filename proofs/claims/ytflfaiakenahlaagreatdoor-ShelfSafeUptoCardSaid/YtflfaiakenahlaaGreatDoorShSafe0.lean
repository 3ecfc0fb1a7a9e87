/-
  Plain facts for ShelfSafe: where leaves lie does not count; how many writes wait.
-/
import Derived.Test.YtflfaiakenahlaaGreatDoorM11
namespace Go.Proofs.YtflfaiakenahlaaGreatDoor.V

theorem kvp_len {l dl : List Lf} (h : l.map kvp = dl.map kvp) : l.length = dl.length := by simpa using congrArg List.length h

theorem find_kvp (l : List Lf) (k : List UInt8) : (findL l k).map kvp = (l.map kvp).find? fun q => decide (q.1 = k) := by
  unfold findL
  rw [List.find?_map]
  rfl

theorem same_kvp {l dl : List Lf} (h : l.map kvp = dl.map kvp) (c : Ch) : sameM l c = sameM dl c := by
  have h1 := find_kvp l c.key
  have h2 := find_kvp dl c.key
  rw [h, ← h2] at h1
  cases ha : findL l c.key with
  | none =>
    cases hb : findL dl c.key with
    | none => rw [same_none ha, same_none hb]
    | some z => rw [ha, hb] at h1; cases h1
  | some y =>
    cases hb : findL dl c.key with
    | none => rw [ha, hb] at h1; cases h1
    | some z =>
      rw [ha, hb] at h1
      simp only [Option.map_some, Option.some.injEq, kvp, Prod.mk.injEq] at h1
      rw [same_some ha, same_some hb, h1.2]

theorem changes_kvp {l dl : List Lf} (h : l.map kvp = dl.map kvp) (cs : List Ch) : changesM l cs = changesM dl cs := by
  unfold changesM
  rw [show (fun x => !sameM l x) = fun x => !sameM dl x from funext fun x => by rw [same_kvp h]]

theorem del_kvp (l : List Lf) (k : List UInt8) : (delL l k).map kvp = (l.map kvp).filter fun q => decide (q.1 ≠ k) := by
  unfold delL
  rw [List.filter_map]
  rfl

theorem ins_kvp (l : List Lf) (x : Lf) : (insK Lf.key l x).map kvp = insK (fun q : List UInt8 × List UInt8 => q.1) (l.map kvp) (kvp x) := by
  unfold insK
  rw [List.map_append, List.map_cons, List.takeWhile_map, List.dropWhile_map]
  rfl

theorem apply_kvp : ∀ (ch : List Ch) (now dn : List Lf) (fr fd : List Nat), now.map kvp = dn.map kvp → (applyM now ch fr).map kvp = (applyM dn ch fd).map kvp
  | [], _, _, _, _, h => h
  | x :: r, now, dn, fr, fd, h => by
    unfold applyM
    have hd : (delL now x.key).map kvp = (delL dn x.key).map kvp := by rw [del_kvp, del_kvp, h]
    split
    · exact apply_kvp r _ _ _ _ hd
    · refine apply_kvp r _ _ _ _ ?_
      rw [ins_kvp, ins_kvp, hd]

/-- Where the leaves lie changes nothing of what Set tells, nor of what is held then. -/
theorem set_kvp {l dl : List Lf} (h : l.map kvp = dl.map kvp) (n : Nat) (cs : List Ch) : (setM l n cs).2.2.2 = (setM dl n cs).2.2.2 ∧ (setM l n cs).1.map kvp = (setM dl n cs).1.map kvp := by
  unfold setM
  rw [changes_kvp h, kvp_len h]
  split
  · exact ⟨rfl, h⟩
  · split
    · exact ⟨rfl, h⟩
    · exact ⟨rfl, apply_kvp _ _ _ _ _ h⟩

/-! ### How many writes wait -/

theorem laid_le (ch : List Ch) (fr : List Nat) : (laidM ch fr).length ≤ ch.length := by
  have h := congrArg List.length (laid_keys ch fr)
  rw [List.length_map, List.length_map] at h
  rw [h]
  exact List.length_filter_le _ _

theorem lay_Qn {st : St} {fr count : Nat} {laid now : List Lf} : (layM st fr count laid now).1.Q.length ≤ st.Q.length + laid.length + 1 := by
  have h1 : (writesM st fr laid).1.Q.length ≤ st.Q.length + laid.length := writes_Qn
  have h2 : (if laid = [] then ((writesM st fr laid).1, 0) else (writesM st fr laid).1.sync).1.Q.length ≤ (writesM st fr laid).1.Q.length := by
    split
    · exact Nat.le_refl _
    · exact sync_Qn _
  unfold layM
  generalize (if laid = [] then ((writesM st fr laid).1, 0) else (writesM st fr laid).1.sync) = S2 at *
  generalize writesM st fr laid = W at *
  have h3 := write_Qn S2.1 (fr : Int) (rootM now count)
  generalize S2.1.write (fr : Int) (rootM now count) = S3 at *
  have h4 := sync_Qn S3.1
  by_cases c1 : W.2 ≠ 0
  · rw [if_pos c1]; omega
  rw [if_neg c1]
  by_cases c2 : S2.2 ≠ 0
  · rw [if_pos c2]; omega
  rw [if_neg c2]
  by_cases c3 : S3.2 ≠ 0
  · rw [if_pos c3]; omega
  rw [if_neg c3]
  omega

theorem setP_Qn {st : St} {fr count : Nat} {l : List Lf} {cs : List Ch} : (setP st fr count l 0 cs).1.Q.length ≤ st.Q.length + cs.length + 1 := by
  unfold setP
  rw [if_neg (by simp)]
  split
  · show st.Q.length ≤ _; omega
  split
  · show st.Q.length ≤ _; omega
  have h1 := lay_Qn (st := st) (fr := fr) (count := count) (laid := laidM (changesM l cs) (freeM l count)) (now := applyM l (changesM l cs) (freeM l count))
  have h2 := laid_le (changesM l cs) (freeM l count)
  have h3 := changes_len l cs
  show (layM st fr count _ _).1.Q.length ≤ _
  omega

theorem setP_dead {st : St} {fr count : Nat} {l : List Lf} {cs : List Ch} : setP st fr count l 13 cs = (st, l, 13, 13) := by
  unfold setP
  rw [if_pos (by decide)]

/-- An area that is a store's whole first part; the store is up. -/
structure Saf (st : St) (l : List Lf) : Prop where
  up : st.down = false
  q : st.Q = []
  a : LaidS st.P 0 12 l
  ok : OkL l 12

theorem Saf.new : Saf (St.new 12) [] := ⟨rfl, rfl, laid_new (by omega), OkL.nil 12⟩
theorem Saf.arm {st : St} {l : List Lf} (h : Saf st l) (n : Nat) : Saf (st.arm n) l := ⟨h.up, h.q, h.a, h.ok⟩

/-- Set: it is done, or the store crashes; then opened again there is the one or the other. -/
theorem Saf.set {st : St} {l : List Lf} (h : Saf st l) (cs : List Ch) :
    ((setP st 0 12 l 0 cs).2.2.2 = (setM l 12 cs).2.2.2 ∧ (setP st 0 12 l 0 cs).2.1 = (setM l 12 cs).1 ∧ (setP st 0 12 l 0 cs).2.2.1 = 0 ∧ (setP st 0 12 l 0 cs).1.down = false ∧ Saf (setP st 0 12 l 0 cs).1 (setM l 12 cs).1) ∨
    ((setP st 0 12 l 0 cs).2.2.2 = 13 ∧ (setP st 0 12 l 0 cs).2.1 = l ∧ (setP st 0 12 l 0 cs).2.2.1 = 13 ∧ (setP st 0 12 l 0 cs).1.down = true ∧
      ∀ kept, ∃ l', (l' = l ∨ l' = (setM l 12 cs).1) ∧ Saf ((setP st 0 12 l 0 cs).1.start kept) l') := by
  rcases set_effect cs h.up h.q h.a h.ok (by omega) (by omega) with ⟨a1, a2, a3, a4, a5, _, a7, _, _, _⟩ | ⟨a1, a2, a3, a4, _, a6⟩
  · exact .inl ⟨a1, a2, a3, a4, a4, a5, a7, set_ok h.ok⟩
  · refine .inr ⟨a1, a2, a3, a4, fun kept => ?_⟩
    rcases a6 kept with h1 | h1
    · exact ⟨l, .inl rfl, rfl, rfl, h1, h.ok⟩
    · exact ⟨_, .inr rfl, rfl, rfl, h1, set_ok h.ok⟩

end Go.Proofs.YtflfaiakenahlaaGreatDoor.V
