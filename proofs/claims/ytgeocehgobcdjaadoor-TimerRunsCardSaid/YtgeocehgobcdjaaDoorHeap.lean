/-
  Plain laws on heaps of events: no program in sight.
-/
import Derived.Test.YtgeocehgobcdjaaDoorVFun
namespace Go.Proofs.YtgeocehgobcdjaaDoor.V

structure TEv where
  id : Nat
  due : Nat
  name : List UInt8
deriving DecidableEq, Inhabited

/-- a comes ahead of b. -/
def TEv.lt (a b : TEv) : Bool := decide (a.due < b.due) || (decide (a.due = b.due) && decide (a.id < b.id))
def TEv.le (a b : TEv) : Prop := a.due < b.due ∨ (a.due = b.due ∧ a.id ≤ b.id)

theorem TEv.le_refl (a : TEv) : a.le a := .inr ⟨rfl, Nat.le_refl _⟩
theorem TEv.le_trans {a b c : TEv} (h : a.le b) (h' : b.le c) : a.le c := by unfold TEv.le at *; omega
theorem TEv.lt_le {a b : TEv} (h : a.lt b = true) : a.le b := by
  simp only [TEv.lt, Bool.or_eq_true, Bool.and_eq_true, decide_eq_true_eq] at h
  unfold TEv.le; omega
theorem TEv.nlt_le {a b : TEv} (h : a.lt b = false) : b.le a := by
  simp only [TEv.lt, Bool.or_eq_false_iff, Bool.and_eq_false_iff, decide_eq_false_iff_not] at h
  unfold TEv.le; omega
theorem TEv.le_due {a b : TEv} (h : a.le b) : a.due ≤ b.due := by unfold TEv.le at h; omega

abbrev at' (xs : List TEv) (k : Nat) : TEv := xs.getD k default
def par (k : Nat) : Nat := (k - 1) / 2

def IsHeap (xs : List TEv) (n : Nat) : Prop := ∀ k, 0 < k → k < n → (at' xs (par k)).le (at' xs k)

theorem heap_min {xs : List TEv} {n : Nat} (h : IsHeap xs n) : ∀ k, k < n → (at' xs 0).le (at' xs k) := by
  intro k
  induction k using Nat.strongRecOn with
  | _ k ih =>
    intro hk
    rcases Nat.eq_zero_or_pos k with rfl | h0
    · exact TEv.le_refl _
    · have hp : par k < k := by unfold par; omega
      exact TEv.le_trans (ih (par k) hp (by omega)) (h k h0 hk)

/-! ### Swap -/

def sw (xs : List TEv) (i j : Nat) : List TEv := (xs.set i (at' xs j)).set j (at' xs i)

theorem sw_len (xs : List TEv) (i j : Nat) : (sw xs i j).length = xs.length := by simp [sw]

theorem sw_at {xs : List TEv} {i j : Nat} (hi : i < xs.length) (hj : j < xs.length) (k : Nat) : at' (sw xs i j) k = if k = j then at' xs i else if k = i then at' xs j else at' xs k := by
  simp only [at', sw, List.getD_eq_getElem?_getD]
  by_cases h1 : k = j
  · subst h1
    rw [if_pos rfl, List.getElem?_set_self (by simpa using hj)]
    rfl
  · rw [if_neg h1, List.getElem?_set_ne (fun h => h1 h.symm)]
    by_cases h2 : k = i
    · subst h2
      rw [if_pos rfl, List.getElem?_set_self hi]
      rfl
    · rw [if_neg h2, List.getElem?_set_ne (fun h => h2 h.symm)]

theorem sw_perm {xs : List TEv} {i j : Nat} (hi : i < xs.length) (hj : j < xs.length) : (sw xs i j).Perm xs := by
  rw [List.perm_iff_count]
  intro a
  unfold sw
  rw [List.count_set (by simpa using hj), List.count_set hi]
  have e1 : at' xs i = xs[i] := by simp [at', List.getD_eq_getElem?_getD, hi]
  have e2 : at' xs j = xs[j] := by simp [at', List.getD_eq_getElem?_getD, hj]
  have e3 : (xs.set i (at' xs j))[j]'(by simpa using hj) = xs[j] := by
    rw [List.getElem_set]
    split
    · rw [e2]
    · rfl
  rw [e3, e1, e2]
  have h1 : (if (xs[i] == a) = true then 1 else 0) ≤ List.count a xs := by
    split
    · rename_i h
      have : a ∈ xs := by rw [← eq_of_beq h]; exact List.getElem_mem hi
      exact List.count_pos_iff.2 this
    · exact Nat.zero_le _
  have h2 : (if (xs[j] == a) = true then 1 else 0) ≤ List.count a xs := by
    split
    · rename_i h
      have : a ∈ xs := by rw [← eq_of_beq h]; exact List.getElem_mem hj
      exact List.count_pos_iff.2 this
    · exact Nat.zero_le _
  omega

/-! ### Up -/

def UpAt (xs : List TEv) (n j : Nat) : Prop :=
  (∀ k, 0 < k → k < n → k ≠ j → (at' xs (par k)).le (at' xs k)) ∧ (∀ c, 0 < c → c < n → par c = j → 0 < j → (at' xs (par j)).le (at' xs c))

theorem up_done {xs : List TEv} {n j : Nat} (h : UpAt xs n j) (hd : j = 0 ∨ (at' xs (par j)).le (at' xs j)) : IsHeap xs n := fun k h0 hk => by
  by_cases hkj : k = j
  · subst hkj
    rcases hd with rfl | hd
    · omega
    · exact hd
  · exact h.1 k h0 hk hkj

theorem up_step {xs : List TEv} {n j : Nat} (h : UpAt xs n j) (h0 : 0 < j) (hj : j < n) (hn : n ≤ xs.length) (hlt : (at' xs j).lt (at' xs (par j)) = true) : UpAt (sw xs (par j) j) n (par j) := by
  have hle := TEv.lt_le hlt
  have hp : par j < j := by unfold par; omega
  have key := fun k => sw_at (xs := xs) (i := par j) (j := j) (by omega) (by omega) k
  refine ⟨fun k k0 hk hkj => ?_, fun c c0 hc hpc hpj => ?_⟩
  · rw [key, key]
    have hpk : par k < k := by unfold par; omega
    by_cases e1 : k = j
    · subst e1
      rw [if_neg (by omega), if_pos rfl, if_pos rfl]
      exact hle
    · rw [if_neg e1, if_neg hkj]
      by_cases e2 : par k = j
      · rw [if_pos e2]
        exact h.2 k k0 hk e2 h0
      · rw [if_neg e2]
        by_cases e3 : par k = par j
        · rw [if_pos e3]
          have := h.1 k k0 hk e1
          rw [e3] at this
          exact TEv.le_trans hle this
        · rw [if_neg e3]
          exact h.1 k k0 hk e1
  · rw [key, key]
    have hpp : par (par j) < par j := by unfold par at *; omega
    rw [if_neg (by omega), if_neg (by omega)]
    have h1 := h.1 (par j) hpj (by omega) (by omega)
    by_cases e1 : c = j
    · rw [if_pos e1]
      exact h1
    · rw [if_neg e1, if_neg (by unfold par at *; omega)]
      have := h.1 c c0 hc e1
      rw [hpc] at this
      exact TEv.le_trans h1 this

theorem at_append {xs : List TEv} {e : TEv} {k : Nat} (h : k < xs.length) : at' (xs ++ [e]) k = at' xs k := by
  simp [at', List.getD_eq_getElem?_getD, List.getElem?_append_left h]

theorem push_up {xs : List TEv} {e : TEv} (h : IsHeap xs xs.length) : UpAt (xs ++ [e]) (xs.length + 1) xs.length := by
  refine ⟨fun k k0 hk hkj => ?_, fun c c0 hc hpc hpj => ?_⟩
  · have hpk : par k < k := by unfold par; omega
    rw [at_append (by omega), at_append (by omega)]
    exact h k k0 (by omega)
  · unfold par at hpc
    omega

/-! ### Down -/

def Near (xs : List TEv) (n i : Nat) : Prop :=
  (∀ k, 0 < k → k < n → k ≠ i → par k ≠ i → (at' xs (par k)).le (at' xs k)) ∧ (∀ c, 0 < c → c < n → par c = i → 0 < i → (at' xs (par i)).le (at' xs c))

def DownAt (xs0 : List TEv) (n i0 : Nat) (xs : List TEv) (i : Nat) : Prop := Near xs n i ∧ ((i = i0 ∧ xs = xs0) ∨ (i0 < i ∧ (at' xs (par i)).le (at' xs i)))

theorem down_step {xs0 xs : List TEv} {n i0 i c : Nat} (h : DownAt xs0 n i0 xs i) (hn : n ≤ xs.length) (hc : c < n) (c0 : 0 < c) (hpc : par c = i) (hmin : ∀ d, 0 < d → d < n → par d = i → (at' xs c).le (at' xs d))
    (hlt : (at' xs c).lt (at' xs i) = true) : DownAt xs0 n i0 (sw xs i c) c := by
  have hle := TEv.lt_le hlt
  have hi : i < c := by unfold par at hpc; omega
  have key := fun k => sw_at (xs := xs) (i := i) (j := c) (by omega) (by omega) k
  obtain ⟨⟨h1, h2⟩, h3⟩ := h
  have hi0 : i0 ≤ i := by omega
  refine ⟨⟨fun k k0 hk hkc hpk => ?_, fun d d0 hd hpd _ => ?_⟩, .inr ⟨by omega, ?_⟩⟩
  · rw [key, key, if_neg hpk, if_neg hkc]
    have hpk' : par k < k := by unfold par; omega
    by_cases e1 : par k = i
    · rw [if_pos e1, if_neg (by omega)]
      exact hmin k k0 hk e1
    · rw [if_neg e1]
      by_cases e2 : k = i
      · subst e2
        rw [if_pos rfl]
        exact h2 c c0 hc hpc k0
      · rw [if_neg e2]
        exact h1 k k0 hk e2 e1
  · have hcd : c < d := by unfold par at hpd; omega
    rw [key, key, if_neg (by omega), if_pos hpc, if_neg (by omega), if_neg (by omega)]
    have := h1 d d0 hd (by omega) (by omega)
    rw [hpd] at this
    exact this
  · rw [key, key, if_neg (by omega), if_pos hpc, if_pos rfl]
    exact hle

theorem down_done {xs0 xs : List TEv} {n i0 i : Nat} (h : DownAt xs0 n i0 xs i) (hch : ∀ d, 0 < d → d < n → par d = i → (at' xs i).le (at' xs d)) : (i0 < i ∧ IsHeap xs n) ∨ (i = i0 ∧ xs = xs0 ∧ UpAt xs n i0) := by
  obtain ⟨⟨h1, h2⟩, h3⟩ := h
  have all : ∀ k, 0 < k → k < n → k ≠ i → (at' xs (par k)).le (at' xs k) := fun k k0 hk hki => by
    by_cases e1 : par k = i
    · rw [e1]; exact hch k k0 hk e1
    · exact h1 k k0 hk hki e1
  rcases h3 with ⟨e1, e2⟩ | ⟨e1, e2⟩
  · subst e1
    exact .inr ⟨rfl, e2, all, h2⟩
  · refine .inl ⟨e1, fun k k0 hk => ?_⟩
    by_cases hki : k = i
    · subst hki; exact e2
    · exact all k k0 hk hki

/-- The last one at the place i. -/
theorem remove_near {xs : List TEv} {n i : Nat} (h : IsHeap xs (n + 1)) (hn : xs.length = n + 1) (hi : i < n) : Near (sw xs i n) n i := by
  have key := fun k => sw_at (xs := xs) (i := i) (j := n) (by omega) (by omega) k
  refine ⟨fun k k0 hk hki hpk => ?_, fun c c0 hc hpc h0 => ?_⟩
  · have hpk' : par k < k := by unfold par; omega
    rw [key, key, if_neg (by omega), if_neg hpk, if_neg (by omega), if_neg hki]
    exact h k k0 (by omega)
  · have hpi : par i < i := by unfold par; omega
    have hic : i < c := by unfold par at hpc; omega
    rw [key, key, if_neg (by omega), if_neg (by omega), if_neg (by omega), if_neg (by omega)]
    have h1 := h c c0 (by omega)
    rw [hpc] at h1
    exact TEv.le_trans (h i h0 (by omega)) h1

end Go.Proofs.YtgeocehgobcdjaaDoor.V
