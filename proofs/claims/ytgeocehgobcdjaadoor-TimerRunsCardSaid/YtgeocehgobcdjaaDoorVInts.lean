/-
  The engine: numbers: what came in, as what is appended; of one's own, as what is read.
-/
import Derived.Test.YtgeocehgobcdjaaDoorVRows
import Derived.Test.YtgeocehgobcdjaaDoorVFun
namespace Go.Proofs.YtgeocehgobcdjaaDoor.V

/-- What came in, cell by cell, as what is appended. -/
theorem Els.src [Strm] {α : Type} {w : World} {L : List (Nat × Obj)} {R : Value → α → Prop} {g : α → Value} {v : Value} {xs : List α} (H : SL w L) (h : Els L R v xs) (hR : ∀ v x, R v x → v = g x) : Src w 1 v xs.length (xs.flatMap fun x => [g x]) := by
  cases h with
  | nil => exact .nil _
  | empty a c => exact .slice _ _ _ _ (by simp) fun i v hi => by simp at hi
  | blk b off c xs hc hr =>
    refine .slice _ _ _ _ (by rw [flatMap_one]; simp) fun i v hi => ?_
    rw [flatMap_one, List.getElem?_map] at hi
    obtain ⟨x, hx, rfl⟩ := Option.map_eq_some_iff.1 hi
    obtain ⟨u, hu, hR'⟩ := hr i x hx
    rw [hR u x hR'] at hu
    rw [add_none]
    exact Rd.cell H hu

abbrev gI (z : Int) : List Value := [.int .i64 z]

/-- Numbers of one's own, as what is read. -/
theorem Slc.ints {L B : List (Nat × Obj)} {T : TypeId} {v : Value} {zs : List Int} (h : Slc gI 1 T v zs B) (hw : ∀ z ∈ zs, (Lit.int .i64 z).wf = true) : IntsIn .i64 (B ++ L) v zs := by
  cases h with
  | nil => exact .nil
  | blk b xs cap spare fr h1 h2 h3 =>
    refine .blk b 0 cap zs h2 fun i x hi => ⟨.int .i64 x, ?_, rfl, hw x (List.mem_of_getElem? hi)⟩
    rw [Nat.zero_add]
    refine Rd.mk (.head _) ?_
    have hlt : i < zs.length := by
      rcases Nat.lt_or_ge i zs.length with h | h
      · exact h
      · rw [List.getElem?_eq_none h] at hi; cases hi
    rw [List.getElem?_toArray, flatMap_one, List.getElem?_append_left (by simpa using hlt), List.getElem?_map, hi]
    rfl

theorem IntsIn.wf {k : IntKind} {L : List (Nat × Obj)} {v : Value} {zs : List Int} (h : IntsIn k L v zs) : ∀ z ∈ zs, (Lit.int k z).wf = true := by
  intro z hz
  obtain ⟨i, hi⟩ := List.getElem?_of_mem hz
  cases h with
  | nil => simp at hi
  | empty a c => simp at hi
  | blk b off c xs hc hr => obtain ⟨_, _, _, hw⟩ := hr i z hi; exact hw

/-- A slice of one's own, element by element. -/
theorem Slc.els {α : Type} {g : α → Value} {L B : List (Nat × Obj)} {T : TypeId} {v : Value} {xs : List α} (h : Slc (fun x => [g x]) 1 T v xs B) : Els (B ++ L) (fun u x => u = g x) v xs := by
  cases h with
  | nil => exact .nil
  | blk b xs cap spare fr h1 h2 h3 =>
    refine .blk b 0 cap xs h2 fun i x hi => ⟨g x, ?_, rfl⟩
    rw [Nat.zero_add]
    refine Rd.mk (.head _) ?_
    have hlt : i < xs.length := by
      rcases Nat.lt_or_ge i xs.length with h | h
      · exact h
      · rw [List.getElem?_eq_none h] at hi; cases hi
    rw [List.getElem?_toArray, flatMap_one, List.getElem?_append_left (by simpa using hlt), List.getElem?_map, hi]
    rfl

theorem map_getD {α β : Type} {l : List α} {f : α → β} {i : Nat} {d : α} (h : i < l.length) : (l.map f)[i]? = some (f (l.getD i d)) := by
  simp [List.getD_eq_getElem?_getD, h]

end Go.Proofs.YtgeocehgobcdjaaDoor.V
