/-
  The engine: slices that came in, whose elements are of one cell each: bytes' slices, integers, bools, strings.
-/
import Derived.Test.YtniihnncgblocaaDoorVRow
import Derived.Deep.Slices
namespace Go.Proofs.YtniihnncgblocaaDoor.V
open Go.ChangeShapes Go.WideShapes Go.ChangeAt Go.RowKit

/-- A slice that came in, element by element: R tells what an element's cell is. -/
inductive Els {α : Type} (L : List (Nat × Obj)) (R : Value → α → Prop) : Value → List α → Prop where
  | nil : Els L R (.slice none 0 0) []
  | empty (a : Addr) (c : Nat) : Els L R (.slice (some a) 0 c) []
  | blk (b off c : Nat) (xs : List α) : xs.length ≤ c → (∀ i x, xs[i]? = some x → ∃ v, Rd L ⟨b, off + i, none⟩ v ∧ R v x) → Els L R (.slice (some ⟨b, off, none⟩) xs.length c) xs

section
variable {α : Type} {L L' : List (Nat × Obj)} {R R' : Value → α → Prop} {v : Value} {xs : List α}

theorem Els.sub (h : Els L R v xs) (hs : ∀ p ∈ L, p ∈ L') (hR : ∀ v x, R v x → R' v x) : Els L' R' v xs := by
  cases h with
  | nil => exact .nil
  | empty a c => exact .empty a c
  | blk b off c xs hc hr =>
    refine .blk b off c xs hc fun i x hi => ?_
    obtain ⟨v, h1, h2⟩ := hr i x hi
    exact ⟨v, h1.sub hs, hR v x h2⟩

theorem Els.len (h : Els L R v xs) : ∃ a c, v = .slice a xs.length c ∧ xs.length ≤ c := by
  cases h with
  | nil => exact ⟨_, _, rfl, by simp⟩
  | empty a c => exact ⟨_, _, rfl, by simp⟩
  | blk b off c xs hc hr => exact ⟨_, _, rfl, hc⟩

/-- What is read at an index. -/
theorem Els.at {a : Option Addr} {n c i : Nat} {x : α} (h : Els L R (.slice a n c) xs) (hi : xs[i]? = some x) : ∃ b off v, a = some ⟨b, off, none⟩ ∧ Rd L ⟨b, off + i, none⟩ v ∧ R v x := by
  cases h with
  | nil => simp at hi
  | empty a c => simp at hi
  | blk b off c xs hc hr =>
    obtain ⟨v, h1, h2⟩ := hr i x hi
    exact ⟨b, off, v, rfl, h1, h2⟩
end

section
variable {H : Type} {enc : TypeId × Value → H} {P : Program} {w : World}

theorem els_in {α : Type} [Inhabited α] {R : Value → α → Prop} {t e : TypeId} {v : Value} {d : DataW H} {ps : List MemPlace} (ht : P.underlying t = some (.slice e)) (hc : P.cellsOf e = 1)
    (hR : ∀ (n : Nat) (u : Value) (x : DataW H × List MemPlace), DataW.trod enc P w 0 (fun _ => true) true n e [u] = some x → ∃ y, R u y)
    (hs : ∃ a len cap, v = .slice a len cap) (h : DataW.Trod enc P w 0 (fun _ => true) true t v d ps) : ∃ xs : List α, xs.length ≤ maxLen ∧ Els (oldL w) R v xs := by
  obtain ⟨a0, len0, cap0, rfl⟩ := hs
  obtain ⟨fuel, hf⟩ := h
  rcases Go.Deep.open_slice1 ht hc hf with ⟨hcs, _⟩ | ⟨a, len, cap, m, n, V, D, Pl, hcs, _, hl, hm, hmm, _, hx⟩
  · simp [Value.cells] at hcs
    obtain ⟨rfl, rfl, rfl⟩ := hcs
    exact ⟨[], by simp, .nil⟩
  · simp [Value.cells] at hcs
    obtain ⟨rfl, rfl, rfl⟩ := hcs
    simp only [if_true] at hmm
    obtain ⟨g, hg⟩ := Go.Deep.choose_lt (α := α) (n := len0) (p := fun i y => R (V i) y) fun i hi => hR n (V i) _ (hx i (by omega)).2
    have hlen : ((List.range len0).map g).length = len0 := by simp
    refine ⟨(List.range len0).map g, by rw [hlen]; omega, ?_⟩
    by_cases h0 : len0 = 0
    · subst h0
      exact .empty _ _
    · obtain ⟨b, off, spot⟩ := a
      have hspot : spot = none := by simpa [Addr.add] using World.cell?_spot (hx 0 (by omega)).1
      subst hspot
      have := Els.blk (L := oldL w) (R := R) b off cap0 ((List.range len0).map g) (by omega) fun i x hi => ?_
      · rw [hlen] at this; exact this
      · have hi' : i < len0 := by
          rcases Nat.lt_or_ge i len0 with h | h
          · exact h
          · rw [List.getElem?_eq_none (by omega)] at hi; cases hi
        have hxv : x = g i := by
          rw [List.getElem?_map, List.getElem?_range hi'] at hi
          simpa using hi.symm
        subst hxv
        refine ⟨V i, old_rd ?_, hg i hi'⟩
        have := (hx i (by omega)).1
        rwa [add_none] at this

/-- Bytes, as an element's cell. -/
theorem bytes_cell {t e n : Nat} {u : Value} {x : DataW H × List MemPlace} (ht : P.underlying t = some (.slice e)) (he : P.underlying e = some (.int .u8)) (hc : P.cellsOf e = 1)
    (h : DataW.trod enc P w 0 (fun _ => true) true n t [u] = some x) : ∃ bs : List UInt8, bs.length ≤ maxLen ∧ Inp (oldL w) u bs := by
  have hs : ∃ a len cap, u = .slice a len cap := by
    rcases open_ints ht he hc h with ⟨hcs, _⟩ | ⟨y, l, c, zs, hcs, _⟩
    · simp at hcs; exact ⟨_, _, _, hcs⟩
    · simp at hcs; exact ⟨_, _, _, hcs⟩
  obtain ⟨a, l, c, rfl⟩ := hs
  exact bytes_in (d := x.1) (ps := x.2) ht he hc ⟨a, l, c, rfl⟩ ⟨n, h⟩

end
end Go.Proofs.YtniihnncgblocaaDoor.V
