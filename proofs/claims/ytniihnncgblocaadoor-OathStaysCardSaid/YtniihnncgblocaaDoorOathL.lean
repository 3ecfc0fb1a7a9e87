/-
  Who signed what: the plain laws.
-/
import Derived.Test.YtniihnncgblocaaDoorOathB
namespace Go.Proofs.YtniihnncgblocaaDoor.V

abbrev Hash := {h : List UInt8 // h.length = 32}
instance : Inhabited Hash := ⟨⟨List.replicate 32 0, by simp⟩⟩
abbrev Sg := Nat × Hash

def hasZ (L : List Sg) (z : Int) (h : Hash) : Bool := L.any fun s => decide ((s.1 : Int) = z) && decide (s.2 = h)
def whoOf (L : List Sg) (h : Hash) : List Nat := (List.range 16).filter fun k => hasZ L (k : Int) h
def sumsZ (L : List Sg) (z : Int) : List Hash := (L.filter fun s => decide ((s.1 : Int) = z)).map (·.2)
def inZ (z : Int) : Bool := decide (0 ≤ z ∧ z < 16)
def addZ (L : List Sg) (z : Int) (h : Hash) : List Sg := if inZ z = true ∧ hasZ L z h = false then L ++ [(z.toNat, h)] else L
def errZ (z : Int) : Nat := if inZ z = true then 0 else 33

structure Signs (L : List Sg) : Prop where
  low : ∀ s ∈ L, s.1 < 16
  once : L.Nodup

theorem hasZ_iff {L : List Sg} {z : Int} {h : Hash} : hasZ L z h = true ↔ ∃ s ∈ L, (s.1 : Int) = z ∧ s.2 = h := by
  unfold hasZ
  simp only [List.any_eq_true, Bool.and_eq_true, decide_eq_true_iff]

theorem hasZ_mem {L : List Sg} {k : Nat} {h : Hash} : hasZ L (k : Int) h = true ↔ (k, h) ∈ L := by
  rw [hasZ_iff]
  constructor
  · rintro ⟨⟨a, b⟩, hs, h1, h2⟩
    simp only at h1 h2
    obtain rfl : a = k := by omega
    subst h2
    exact hs
  · exact fun h => ⟨_, h, rfl, rfl⟩

theorem Signs.out {L : List Sg} (hL : Signs L) {z : Int} {h : Hash} (hz : inZ z = false) : hasZ L z h = false := by
  rw [Bool.eq_false_iff]
  intro hc
  obtain ⟨s, hs, h1, _⟩ := hasZ_iff.1 hc
  have := hL.low s hs
  unfold inZ at hz
  rw [decide_eq_false_iff_not] at hz
  omega

theorem Signs.nil : Signs [] := ⟨fun s h => (by cases h), .nil⟩

theorem Signs.add {L : List Sg} (hL : Signs L) (z : Int) (h : Hash) : Signs (addZ L z h) := by
  unfold addZ
  split
  · rename_i hc
    obtain ⟨h1, h2⟩ := hc
    have hz := of_decide_eq_true h1
    refine ⟨fun s hs => ?_, ?_⟩
    · rcases List.mem_append.1 hs with hs | hs
      · exact hL.low s hs
      · obtain rfl := List.mem_singleton.1 hs
        simp only
        omega
    · rw [List.nodup_append]
      refine ⟨hL.once, by simp, fun a ha b hb => ?_⟩
      obtain rfl := List.mem_singleton.1 hb
      rintro rfl
      have := (hasZ_mem (L := L)).2 ha
      rw [show ((z.toNat : Nat) : Int) = z by omega, h2] at this
      cases this
  · exact hL

theorem addZ_len (L : List Sg) (z : Int) (h : Hash) : (addZ L z h).length ≤ L.length + 1 := by
  unfold addZ
  split <;> simp

theorem hasZ_add (L : List Sg) (z z' : Int) (h h' : Hash) : hasZ (addZ L z h) z' h' = (hasZ L z' h' || (inZ z && decide (z = z') && decide (h = h'))) := by
  unfold addZ
  split
  · rename_i hc
    have hz := of_decide_eq_true hc.1
    have e : ((z.toNat : Nat) : Int) = z := by omega
    simp only [hasZ, List.any_append, List.any_cons, List.any_nil, Bool.or_false, hc.1, Bool.true_and]
    congr 1
    rw [e]
  · rename_i hc
    by_cases hi : inZ z = true
    · have h2 : hasZ L z h = true := by
        cases hh : hasZ L z h with
        | true => rfl
        | false => exact absurd ⟨hi, hh⟩ hc
      by_cases hz : z = z'
      · by_cases hhh : h = h'
        · subst hz hhh; rw [h2]; simp
        · simp [hhh]
      · simp [hz]
    · simp [hi]

theorem sorted_ext {a b : List Nat} (ha : a.Pairwise (· < ·)) (hb : b.Pairwise (· < ·)) (h : ∀ x, x ∈ a ↔ x ∈ b) : a = b := by
  have na : a.Nodup := ha.imp fun h => Nat.ne_of_lt h
  have nb : b.Nodup := hb.imp fun h => Nat.ne_of_lt h
  have hp : a.Perm b := (List.perm_ext_iff_of_nodup na nb).2 h
  exact hp.eq_of_pairwise (le := (· < ·)) (fun _ _ _ _ h1 h2 => absurd h1 (Nat.lt_asymm h2)) ha hb

theorem whoOf_sorted (L : List Sg) (h : Hash) : (whoOf L h).Pairwise (· < ·) := List.pairwise_lt_range.filter _
theorem whoOf_len (L : List Sg) (h : Hash) : (whoOf L h).length ≤ 16 := by
  have := List.length_filter_le (fun k : Nat => hasZ L (k : Int) h) (List.range 16)
  rwa [List.length_range] at this
theorem mem_whoOf {L : List Sg} (hL : Signs L) {h : Hash} {k : Nat} : k ∈ whoOf L h ↔ (k, h) ∈ L := by
  unfold whoOf
  rw [List.mem_filter, List.mem_range, hasZ_mem]
  exact ⟨fun h => h.2, fun h => ⟨hL.low _ h, h⟩⟩
theorem whoOf_any {L : List Sg} (hL : Signs L) (h : Hash) (z : Int) : ((whoOf L h).any fun k => decide ((k : Int) = z)) = hasZ L z h := by
  rw [Bool.eq_iff_iff, List.any_eq_true, hasZ_iff]
  constructor
  · rintro ⟨k, hk, hz⟩
    exact ⟨(k, h), (mem_whoOf hL).1 hk, of_decide_eq_true hz, rfl⟩
  · rintro ⟨⟨k, h'⟩, hs, hz, rfl⟩
    exact ⟨k, (mem_whoOf hL).2 hs, decide_eq_true hz⟩

theorem whoOf_other {L : List Sg} {z : Int} {h h' : Hash} (hne : h ≠ h') : whoOf (addZ L z h) h' = whoOf L h' := by
  unfold whoOf
  congr 1
  funext k
  rw [hasZ_add]
  simp [hne]

/-- Where it is laid in. -/
theorem whoOf_ins {L : List Sg} {k i : Nat} {h : Hash} (hk : k < 16) (hn : hasZ L (k : Int) h = false) (_ : i ≤ (whoOf L h).length) (h1 : ∀ j, j < i → (whoOf L h).getD j 0 < k)
    (h2 : ∀ j, i ≤ j → j < (whoOf L h).length → k ≤ (whoOf L h).getD j 0) : (whoOf L h).take i ++ k :: (whoOf L h).drop i = whoOf (addZ L (k : Int) h) h := by
  have hs := whoOf_sorted L h
  have hnm : k ∉ whoOf L h := fun hm => by
    unfold whoOf at hm
    rw [List.mem_filter, hn] at hm
    cases hm.2
  generalize hws : whoOf L h = ws at *
  have htake : ∀ x ∈ ws.take i, x < k := fun x hx => by
    obtain ⟨j, hj⟩ := List.getElem?_of_mem hx
    rw [List.getElem?_take] at hj
    split at hj
    · have := h1 j (by assumption)
      rw [List.getD_eq_getElem?_getD, hj] at this
      exact this
    · cases hj
  have hdrop : ∀ x ∈ ws.drop i, k < x := fun x hx => by
    obtain ⟨j, hj⟩ := List.getElem?_of_mem hx
    rw [List.getElem?_drop] at hj
    have hlt : i + j < ws.length := by
      rcases Nat.lt_or_ge (i + j) ws.length with h | h
      · exact h
      · rw [List.getElem?_eq_none h] at hj; cases hj
    have := h2 (i + j) (by omega) hlt
    rw [List.getD_eq_getElem?_getD, hj] at this
    have hxm : x ∈ ws := List.mem_of_getElem? hj
    have hne : k ≠ x := fun he => hnm (he ▸ hxm)
    simp only [Option.getD_some] at this
    omega
  refine sorted_ext ?_ (whoOf_sorted _ _) fun x => ?_
  · rw [List.pairwise_append]
    refine ⟨hs.sublist (List.take_sublist _ _), ?_, fun a ha b hb => ?_⟩
    · rw [List.pairwise_cons]
      exact ⟨hdrop, hs.sublist (List.drop_sublist _ _)⟩
    · rcases List.mem_cons.1 hb with rfl | hb
      · exact htake a ha
      · have := htake a ha; have := hdrop b hb; omega
  · have e1 : x ∈ ws.take i ++ k :: ws.drop i ↔ x ∈ ws ∨ x = k := by
      conv => rhs; rw [← List.take_append_drop i ws]
      simp only [List.mem_append, List.mem_cons]
      constructor
      · rintro (h | h | h)
        · exact .inl (.inl h)
        · exact .inr h
        · exact .inl (.inr h)
      · rintro ((h | h) | h)
        · exact .inl h
        · exact .inr (.inr h)
        · exact .inr (.inl h)
    rw [e1, ← hws]
    unfold whoOf
    rw [List.mem_filter, List.mem_filter, hasZ_add, List.mem_range]
    have hin : inZ (k : Int) = true := decide_eq_true (by omega)
    simp only [hin, Bool.true_and, decide_true, Bool.and_true, Bool.or_eq_true, decide_eq_true_iff]
    constructor
    · rintro (⟨a, b⟩ | rfl)
      · exact ⟨a, .inl b⟩
      · exact ⟨hk, .inr rfl⟩
    · rintro ⟨a, b | b⟩
      · exact .inl ⟨a, b⟩
      · exact .inr (by omega)

theorem sumsZ_app (L : List Sg) (s : Sg) (z : Int) : sumsZ (L ++ [s]) z = if (s.1 : Int) = z then sumsZ L z ++ [s.2] else sumsZ L z := by
  unfold sumsZ
  rw [List.filter_append, List.map_append]
  split
  · rename_i h
    rw [List.filter_cons_of_pos (by simp [h])]
    rfl
  · rename_i h
    rw [List.filter_cons_of_neg (by simp [h])]
    simp

theorem Signs.sumsOut {L : List Sg} (hL : Signs L) {z : Int} (hz : inZ z = false) : sumsZ L z = [] := by
  unfold sumsZ
  rw [List.map_eq_nil_iff, List.filter_eq_nil_iff]
  intro s hs
  have := hL.low s hs
  unfold inZ at hz
  rw [decide_eq_false_iff_not] at hz
  simp only [decide_eq_true_iff]
  omega

theorem sumsZ_len (L : List Sg) (z : Int) : (sumsZ L z).length ≤ L.length := by
  unfold sumsZ
  rw [List.length_map]
  exact List.length_filter_le _ _

/-- How many signatures the first n parties made. -/
def lensTo (L : List Sg) : Nat → Nat
  | 0 => 0
  | n + 1 => lensTo L n + (sumsZ L (n : Int)).length

theorem lensTo_eq (L : List Sg) : ∀ n, lensTo L n = (L.filter fun s => decide (s.1 < n)).length
  | 0 => by rw [List.filter_eq_nil_iff.2 (by simp)]; rfl
  | n + 1 => by
    rw [lensTo, lensTo_eq L n]
    unfold sumsZ
    rw [List.length_map]
    induction L with
    | nil => rfl
    | cons s L ih =>
      simp only [List.filter_cons]
      by_cases h1 : s.1 < n
      · have e1 : ¬ ((s.1 : Int) = (n : Int)) := by omega
        have e2 : s.1 < n + 1 := by omega
        simp only [h1, e1, e2, decide_true, decide_false, if_true, List.length_cons, Bool.false_eq_true, if_false]
        omega
      · by_cases h2 : s.1 = n
        · have e1 : (s.1 : Int) = (n : Int) := by omega
          have e2 : s.1 < n + 1 := by omega
          simp only [h1, e1, e2, decide_true, decide_false, if_true, List.length_cons, Bool.false_eq_true, if_false]
          omega
        · have e1 : ¬ ((s.1 : Int) = (n : Int)) := by omega
          have e2 : ¬ (s.1 < n + 1) := by omega
          simp only [h1, e1, e2, decide_false, Bool.false_eq_true, if_false]
          exact ih

theorem Signs.len {L : List Sg} (hL : Signs L) : lensTo L 16 = L.length := by
  rw [lensTo_eq, List.filter_eq_self.2 fun s hs => decide_eq_true (hL.low s hs)]

/-- All of one sum: as many as signed it. -/
theorem Signs.oneSum {L : List Sg} (hL : Signs L) {h : Hash} (ho : ∀ s ∈ L, s.2 = h) : L.length = (whoOf L h).length := by
  have h1 : (L.map (·.1)).Nodup := by
    rw [List.nodup_iff_pairwise_ne, List.pairwise_map]
    refine hL.once.imp_of_mem fun {a b} ha hb hab he => hab ?_
    have := ho a ha
    have := ho b hb
    exact Prod.ext he (by rw [ho a ha, ho b hb])
  have h2 : (L.map (·.1)).Perm (whoOf L h) := (List.perm_ext_iff_of_nodup h1 ((whoOf_sorted L h).imp fun h => Nat.ne_of_lt h)).2 fun k => by
    rw [mem_whoOf hL, List.mem_map]
    constructor
    · rintro ⟨⟨a, b⟩, hs, rfl⟩
      have := ho _ hs
      simp only at this
      subst this
      exact hs
    · exact fun h => ⟨_, h, rfl⟩
  rw [← h2.length_eq, List.length_map]

end Go.Proofs.YtniihnncgblocaaDoor.V
