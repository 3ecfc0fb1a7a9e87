/-
  The engine: bytes that came in (or that somebody else has): what is read there, and what is cut from them.
-/
import Derived.Test.YtniihnncgblocaaDoorVSl
namespace Go.Proofs.YtniihnncgblocaaDoor.V

abbrev gB (x : UInt8) : List Value := [BV x]

theorem gB_map (xs : List UInt8) : xs.flatMap gB = xs.map BV := flatMap_one BV xs

/-- Bytes that somebody else has: what is read there. -/
inductive Inp (L : List (Nat × Obj)) : Value → List UInt8 → Prop where
  | nil : Inp L (.slice none 0 0) []
  | empty (a : Addr) (c : Nat) : Inp L (.slice (some a) 0 c) []
  | blk (b off c : Nat) (bs : List UInt8) : bs.length ≤ c → (∀ i, i < bs.length → Rd L ⟨b, off + i, none⟩ (BV (bs.getD i 0))) → Inp L (.slice (some ⟨b, off, none⟩) bs.length c) bs

theorem Inp.sub {L L' : List (Nat × Obj)} {v : Value} {bs : List UInt8} (h : Inp L v bs) (hs : ∀ p ∈ L, p ∈ L') : Inp L' v bs := by
  cases h with
  | nil => exact .nil
  | empty a c => exact .empty a c
  | blk b off c bs hc hr => exact .blk b off c bs hc fun i hi => (hr i hi).sub hs

theorem Inp.right {L A : List (Nat × Obj)} {v : Value} {bs : List UInt8} (h : Inp L v bs) : Inp (A ++ L) v bs := h.sub fun _ hp => List.mem_append_right _ hp

theorem Inp.tail {L : List (Nat × Obj)} {x : Nat × Obj} {v : Value} {bs : List UInt8} (h : Inp L v bs) : Inp (x :: L) v bs := h.sub fun _ hp => .tail _ hp

theorem Inp.len {L : List (Nat × Obj)} {v : Value} {bs : List UInt8} (h : Inp L v bs) : ∃ a c, v = .slice a bs.length c ∧ bs.length ≤ c := by
  cases h with
  | nil => exact ⟨_, _, rfl, by simp⟩
  | empty a c => exact ⟨_, _, rfl, by simp⟩
  | blk b off c bs hc hr => exact ⟨_, _, rfl, hc⟩

theorem Inp.src [Strm] {w : World} {L : List (Nat × Obj)} {v : Value} {bs : List UInt8} (H : SL w L) (h : Inp L v bs) : Src w 1 v bs.length (bs.flatMap gB) := by
  cases h with
  | nil => exact .nil _
  | empty a c => exact .slice _ _ _ _ (by simp) fun i v hi => by simp at hi
  | blk b off c bs hc hr =>
    refine .slice _ _ _ _ (by rw [gB_map]; simp) fun i v hi => ?_
    rw [gB_map] at hi
    have hlt : i < bs.length := by
      rcases Nat.lt_or_ge i bs.length with h | h
      · exact h
      · rw [List.getElem?_eq_none (by simpa using h)] at hi; cases hi
    have e : (bs.map BV)[i]? = some (BV (bs.getD i 0)) := by simp [hlt]
    rw [e] at hi
    cases hi
    rw [add_none]
    exact Rd.cell H (hr i hlt)

theorem Inp.take {L : List (Nat × Obj)} {a : Option Addr} {n c k : Nat} {bs : List UInt8} (h : Inp L (.slice a n c) bs) (hk : k ≤ n) : Inp L (.slice (cutAddr a 0 c 1) (k - 0) (c - 0)) (bs.take k) := by
  cases h with
  | nil =>
    obtain rfl : k = 0 := by omega
    exact .nil
  | empty a c =>
    obtain rfl : k = 0 := by omega
    unfold cutAddr
    split
    · exact .empty _ _
    · exact .empty _ _
  | blk b off c bs hc hr =>
    have e : cutAddr (some (⟨b, off, none⟩ : Addr)) 0 c 1 = some ⟨b, off, none⟩ := by
      unfold cutAddr
      split
      · rfl
      · simp [add_none]
    have hl : (bs.take k).length = k := by rw [List.length_take]; omega
    have := Inp.blk (L := L) b off c (bs.take k) (by omega) fun i hi => by
      have := hr i (by omega)
      have e2 : (bs.take k).getD i 0 = bs.getD i 0 := by simp [List.getD_eq_getElem?_getD, show i < k by omega]
      rw [e2]; exact this
    rw [hl] at this
    rw [e]
    exact this

theorem Inp.drop {L : List (Nat × Obj)} {a : Option Addr} {n c k : Nat} {bs : List UInt8} (h : Inp L (.slice a n c) bs) (hk : k ≤ n) : Inp L (.slice (cutAddr a k c 1) (n - k) (c - k)) (bs.drop k) := by
  cases h with
  | nil =>
    obtain rfl : k = 0 := by omega
    exact .nil
  | empty a c =>
    obtain rfl : k = 0 := by omega
    unfold cutAddr
    split
    · exact .empty _ _
    · exact .empty _ _
  | blk b off c bs hc hr =>
    have hl : (bs.drop k).length = bs.length - k := List.length_drop
    by_cases hck : c = k
    · have e : cutAddr (some (⟨b, off, none⟩ : Addr)) k c 1 = some ⟨b, off, none⟩ := by simp [cutAddr, hck]
      have := Inp.blk (L := L) b off (c - k) (bs.drop k) (by omega) fun i hi => by omega
      rw [hl] at this
      rw [e]
      exact this
    · have e : cutAddr (some (⟨b, off, none⟩ : Addr)) k c 1 = some ⟨b, off + k, none⟩ := by simp [cutAddr, hck, add_none]
      have := Inp.blk (L := L) b (off + k) (c - k) (bs.drop k) (by omega) fun i hi => by
        have h2 := hr (k + i) (by omega)
        have e2 : (bs.drop k).getD i 0 = bs.getD (k + i) 0 := by simp [List.getD_eq_getElem?_getD, List.getElem?_drop]
        rw [e2, Nat.add_assoc]; exact h2
      rw [hl] at this
      rw [e]
      exact this

/-- A slice of bytes of one's own, as one that is read. -/
theorem Slc.inp {L B : List (Nat × Obj)} {T : TypeId} {v : Value} {bs : List UInt8} (h : Slc gB 1 T v bs B) : Inp (B ++ L) v bs := by
  cases h with
  | nil => exact .nil
  | blk b xs cap spare fr h1 h2 h3 =>
    refine .blk b 0 cap bs h2 fun i hi => ?_
    rw [Nat.zero_add]
    refine Rd.mk (.head _) ?_
    rw [List.getElem?_toArray, gB_map, List.getElem?_append_left (by simpa using hi)]
    simp [hi]

theorem Slc.cut0 {T : TypeId} {b n c : Nat} {xs : List UInt8} {B : List (Nat × Obj)} (h : Slc gB 1 T (.slice (some ⟨b, 0, none⟩) n c) xs B) (hn : 0 < xs.length) :
    Slc gB 1 T (.slice (cutAddr (some ⟨b, 0, none⟩) 0 c 1) (0 - 0) (c - 0)) [] B := by
  obtain ⟨b', c', sp, fr, e1, rfl, h1, h2, h3⟩ := h.shape hn
  cases e1
  have e : cutAddr (some (⟨b, 0, none⟩ : Addr)) 0 c 1 = some ⟨b, 0, none⟩ := by
    unfold cutAddr
    split
    · rfl
    · simp [add_none]
  rw [e]
  have := Slc.blk (g := gB) (sz := 1) (T := T) b [] c (xs.flatMap gB ++ sp) fr (by rw [List.length_append, flatMap_length (g := gB) (sz := 1) (fun _ => rfl)]; simp only [List.length_nil]; omega) (by simp) h3
  simpa using this

theorem Inp.reads {L : List (Nat × Obj)} {a : Option Addr} {n c : Nat} {xs : List UInt8} (h : Inp L (.slice a n c) xs) :
    match (generalizing := false) a with | none => xs.map BV = [] | some ad => ∀ i v, (xs.map BV)[i]? = some v → Rd L (ad.add i) v := by
  cases h with
  | nil => rfl
  | empty a c => intro i v hi; simp at hi
  | blk b off c xs hc hr =>
    intro i v hi
    have hlt : i < xs.length := by
      rcases Nat.lt_or_ge i xs.length with h | h
      · exact h
      · rw [List.getElem?_eq_none (by simpa using h)] at hi; cases hi
    have e : (xs.map BV)[i]? = some (BV (xs.getD i 0)) := by simp [hlt]
    rw [e] at hi
    cases hi
    rw [add_none]
    exact hr i hlt

end Go.Proofs.YtniihnncgblocaaDoor.V
