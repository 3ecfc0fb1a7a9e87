/-
  The engine: slices that came in, whose elements are structs of several cells.
-/
import Derived.Test.YtniihnncgblocaaDoorVEls
import Derived.Deep.Fields
namespace Go.Proofs.YtniihnncgblocaaDoor.V
open Go.ChangeShapes Go.WideShapes Go.ChangeAt Go.RowKit

/-- A slice that came in, element by element: R tells what lies from a place on (the block, the cell). -/
inductive ElsA {α : Type} (sz : Nat) (R : Nat → Nat → α → Prop) : Value → List α → Prop where
  | nil : ElsA sz R (.slice none 0 0) []
  | empty (a : Addr) (c : Nat) : ElsA sz R (.slice (some a) 0 c) []
  | blk (b off c : Nat) (xs : List α) : xs.length ≤ c → (∀ i x, xs[i]? = some x → R b (off + i * sz) x) → ElsA sz R (.slice (some ⟨b, off, none⟩) xs.length c) xs

section
variable {α : Type} {sz : Nat} {R R' : Nat → Nat → α → Prop} {v : Value} {xs : List α}

theorem ElsA.sub (h : ElsA sz R v xs) (hR : ∀ b off x, R b off x → R' b off x) : ElsA sz R' v xs := by
  cases h with
  | nil => exact .nil
  | empty a c => exact .empty a c
  | blk b off c xs hc hr => exact .blk b off c xs hc fun i x hi => hR _ _ _ (hr i x hi)

theorem ElsA.len (h : ElsA sz R v xs) : ∃ a c, v = .slice a xs.length c ∧ xs.length ≤ c := by
  cases h with
  | nil => exact ⟨_, _, rfl, by simp⟩
  | empty a c => exact ⟨_, _, rfl, by simp⟩
  | blk b off c xs hc hr => exact ⟨_, _, rfl, hc⟩

/-- What lies at an index. -/
theorem ElsA.at {a : Option Addr} {n c i : Nat} {x : α} (h : ElsA sz R (.slice a n c) xs) (hi : xs[i]? = some x) : ∃ b off, a = some ⟨b, off, none⟩ ∧ R b (off + i * sz) x := by
  cases h with
  | nil => simp at hi
  | empty a c => simp at hi
  | blk b off c xs hc hr => exact ⟨b, off, rfl, hr i x hi⟩
end

theorem i64_of {z : Int} (h : (Lit.int .i64 z).wf = true) : -9223372036854775808 ≤ z ∧ z ≤ 9223372036854775807 := by
  simpa [Lit.wf, IntKind.min, IntKind.max, IntKind.signed, IntKind.bits] using h

section
variable {H : Type} {enc : TypeId × Value → H} {P : Program} {w : World}

/-- What a reading holds, at once. -/
def partsOf {H : Type} : DataW H → List (DataW H)
  | .slice elems _ => elems
  | .agg parts => parts
  | _ => []

theorem elsA_in {α : Type} [Inhabited α] {sz : Nat} {R : Nat → Nat → α → Prop} {t e : TypeId} {v : Value} {d : DataW H} {ps : List MemPlace} (ht : P.underlying t = some (.slice e)) (hc : P.cellsOf e = sz) (hpos : 0 < sz)
    (hR : ∀ (n b off : Nat) (cs : List Value) (x : DataW H × List MemPlace), cs.length = sz → (∀ (j : Nat) v, cs[j]? = some v → Rd (oldL w) ⟨b, off + j, none⟩ v) → DataW.trod enc P w 0 (fun _ => true) true n e cs = some x → x.1 ∈ partsOf d → ∃ y, R b off y)
    (hs : ∃ a len cap, v = .slice a len cap) (h : DataW.Trod enc P w 0 (fun _ => true) true t v d ps) : ∃ xs : List α, xs.length ≤ maxLen ∧ ElsA sz R v xs := by
  obtain ⟨a0, len0, cap0, rfl⟩ := hs
  obtain ⟨fuel, hf⟩ := h
  rcases Go.Deep.open_slice ht hf with ⟨hcs, _⟩ | ⟨a, len, cap, m, n, D, Pl, hcs, _, hl, hm, hmm, hd, hx⟩
  · simp [Value.cells] at hcs
    obtain ⟨rfl, rfl, rfl⟩ := hcs
    exact ⟨[], by simp, .nil⟩
  · simp [Value.cells] at hcs
    obtain ⟨rfl, rfl, rfl⟩ := hcs
    simp only [if_true] at hmm
    by_cases h0 : len0 = 0
    · subst h0
      exact ⟨[], by simp, .empty _ _⟩
    obtain ⟨b, off, spot⟩ := a
    have hspot : spot = none := by
      obtain ⟨cs', h1, _⟩ := hx 0 (by omega)
      obtain ⟨_, hl1, hc1⟩ := World.cells?_some h1
      rw [hc] at hl1 hc1
      have h2 := hc1 0 hpos
      rw [List.getElem?_eq_getElem (by omega)] at h2
      simpa [Addr.add] using World.cell?_spot h2
    subst hspot
    obtain ⟨g, hg⟩ := Go.Deep.choose_lt (α := α) (n := len0) (p := fun i y => R b (off + i * sz) y) fun i hi => by
      obtain ⟨cs', h1, h2⟩ := hx i (by omega)
      obtain ⟨_, hl1, hc1⟩ := World.cells?_some h1
      rw [hc] at hl1 hc1
      have hd1 := congrArg Prod.fst hd
      simp only at hd1
      refine hR n b (off + i * sz) cs' _ hl1 (fun j v hj => ?_) h2 (by rw [hd1]; exact List.mem_map_of_mem (List.mem_range.2 hi))
      have hlt : j < sz := by
        rcases Nat.lt_or_ge j sz with h | h
        · exact h
        · rw [List.getElem?_eq_none (by omega)] at hj; cases hj
      have h3 := hc1 j hlt
      rw [add_none, add_none, hj] at h3
      exact old_rd h3
    have hlen : ((List.range len0).map g).length = len0 := by simp
    refine ⟨(List.range len0).map g, by rw [hlen]; omega, ?_⟩
    have := ElsA.blk (sz := sz) (R := R) b off cap0 ((List.range len0).map g) (by omega) fun i x hi => ?_
    · rw [hlen] at this; exact this
    · have hi' : i < len0 := by
        rcases Nat.lt_or_ge i len0 with h | h
        · exact h
        · rw [List.getElem?_eq_none (by omega)] at hi; cases hi
      have hxv : x = g i := by
        rw [List.getElem?_map, List.getElem?_range hi'] at hi
        simpa using hi.symm
      subst hxv
      exact hg i hi'

/-- A struct's fields, of one cell each. -/
theorem fields_at {ts n : Nat} {fs : Array Field} {cs : List Value} {x : DataW H × List MemPlace} (hs : P.underlying ts = some (.struct fs)) (hone : Go.Deep.oneCellFields P fs = true) (hC : P.cellsOf ts = fs.size)
    (h : DataW.trod enc P w 0 (fun _ => true) true n ts cs = some x) : ∃ m, ∀ (i : Nat) (f : Field), fs[i]? = some f → ∃ v y, cs[i]? = some v ∧ DataW.trod enc P w 0 (fun _ => true) true m f.type [v] = some y ∧ y.1 ∈ partsOf x.1 := by
  obtain ⟨xs, m, _, rfl, hl, hxl, hf⟩ := DataW.trod_struct hs h
  refine ⟨m, fun i f hi => ?_⟩
  have hlt : i < fs.size := (Array.getElem?_eq_some_iff.1 hi).1
  obtain ⟨ho, hc1⟩ := Go.Deep.hone_of hone i f hi
  have g := hf i f hi
  rw [ho, hc1, Go.Deep.take1_drop cs i undef (by omega)] at g
  rw [List.getElem?_eq_getElem (by omega)] at g
  exact ⟨cs.getD i undef, _, by simp [List.getD, List.getElem?_eq_getElem (show i < cs.length by omega)], g, List.mem_map_of_mem (List.getElem_mem _)⟩

/-- An integer, as an element's cell. -/
theorem int_cell {t n : Nat} {k : IntKind} {u : Value} {x : DataW H × List MemPlace} (ht : P.underlying t = some (.int k)) (h : DataW.trod enc P w 0 (fun _ => true) true n t [u] = some x) :
    ∃ z, u = .int k z ∧ (Lit.int k z).wf = true := by
  obtain ⟨z, hz, _, hw⟩ := DataW.trod_int ht h
  exact ⟨z, by simpa using hz, hw⟩

/-- Integers that came in. -/
def IntsIn (k : IntKind) (L : List (Nat × Obj)) : Value → List Int → Prop := Els L fun v z => v = .int k z ∧ (Lit.int k z).wf = true

theorem ints_in {t e : TypeId} {k : IntKind} {v : Value} {d : DataW H} {ps : List MemPlace} (ht : P.underlying t = some (.slice e)) (he : P.underlying e = some (.int k)) (hc : P.cellsOf e = 1)
    (hs : ∃ a len cap, v = .slice a len cap) (h : DataW.Trod enc P w 0 (fun _ => true) true t v d ps) : ∃ zs : List Int, zs.length ≤ maxLen ∧ IntsIn k (oldL w) v zs :=
  els_in ht hc (fun _ _ _ h => int_cell he h) hs h

theorem ints_cell {t e n : Nat} {k : IntKind} {u : Value} {x : DataW H × List MemPlace} (ht : P.underlying t = some (.slice e)) (he : P.underlying e = some (.int k)) (hc : P.cellsOf e = 1)
    (h : DataW.trod enc P w 0 (fun _ => true) true n t [u] = some x) : ∃ zs : List Int, zs.length ≤ maxLen ∧ IntsIn k (oldL w) u zs := by
  have hs : ∃ a len cap, u = .slice a len cap := by
    rcases open_ints ht he hc h with ⟨hcs, _⟩ | ⟨y, l, c, zs, hcs, _⟩
    · simp at hcs; exact ⟨_, _, _, hcs⟩
    · simp at hcs; exact ⟨_, _, _, hcs⟩
  obtain ⟨a, l, c, rfl⟩ := hs
  exact ints_in (d := x.1) (ps := x.2) ht he hc ⟨a, l, c, rfl⟩ ⟨n, h⟩

/-- Bools that came in. -/
def BoolsIn (L : List (Nat × Obj)) : Value → List Bool → Prop := Els L fun v z => v = .bool z

theorem bool_cell {t n : Nat} {u : Value} {x : DataW H × List MemPlace} (ht : P.underlying t = some .bool) (h : DataW.trod enc P w 0 (fun _ => true) true n t [u] = some x) : ∃ z, u = .bool z := by
  cases n with
  | zero => simp [DataW.trod] at h
  | succ n =>
    unfold DataW.trod at h
    rw [ht] at h
    split at h <;> simp_all

theorem bools_in {t e : TypeId} {v : Value} {d : DataW H} {ps : List MemPlace} (ht : P.underlying t = some (.slice e)) (he : P.underlying e = some .bool) (hc : P.cellsOf e = 1)
    (hs : ∃ a len cap, v = .slice a len cap) (h : DataW.Trod enc P w 0 (fun _ => true) true t v d ps) : ∃ zs : List Bool, zs.length ≤ maxLen ∧ BoolsIn (oldL w) v zs :=
  els_in ht hc (fun _ _ _ h => bool_cell he h) hs h

end
end Go.Proofs.YtniihnncgblocaaDoor.V
