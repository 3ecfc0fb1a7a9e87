/-
  The two queues, side by side: what they share; Add, told in one sentence.
-/
import Derived.Test.YtgeocehgobcdjaaDoorTimerRef2
import Derived.Test.YtgeocehgobcdjaaDoorNumS
namespace Go.Proofs.YtgeocehgobcdjaaDoor.V

/-- An error, by its number; the type T. -/
def ErrN (T : TypeId) : Nat → Value
  | 0 => .nilIface
  | n + 1 => .iface T (.int .i64 ((n + 1 : Nat) : Int))

def addErr (due : Int) (name : List UInt8) : Nat := if due < 0 ∨ 1099511627776 < due then 4 else if 64 < name.length then 2 else 0
def addNum (last : Nat) (due : Int) (name : List UInt8) : Nat := if addErr due name = 0 then last + 1 else 0

/-- What the two queues share. -/
structure QRel (xs L : List TEv) (last : Nat) : Prop where
  perm : xs.Perm L
  sorted : L.Pairwise TEv.le
  ids : ∀ e ∈ L, 1 ≤ e.id ∧ e.id ≤ last
  dist : L.Pairwise fun a b => a.id ≠ b.id
  due : ∀ e ∈ L, e.due ≤ 1099511627776
  len : L.length ≤ last

theorem pair_inj {L : List TEv} (h : L.Pairwise fun a b => a.id ≠ b.id) : ∀ {a b : TEv}, a ∈ L → b ∈ L → a.id = b.id → a = b := by
  intro a b ha hb e
  obtain ⟨i, hi⟩ := List.getElem?_of_mem ha
  obtain ⟨j, hj⟩ := List.getElem?_of_mem hb
  obtain ⟨hi1, hi2⟩ := List.getElem?_eq_some_iff.1 hi
  obtain ⟨hj1, hj2⟩ := List.getElem?_eq_some_iff.1 hj
  have hp := List.pairwise_iff_getElem.1 h
  rcases Nat.lt_trichotomy i j with hlt | rfl | hlt
  · exact absurd (by rw [hi2, hj2]; exact e) (hp i j hi1 hj1 hlt)
  · rw [← hi2, ← hj2]
  · exact absurd (by rw [hi2, hj2]; exact e.symm) (hp j i hj1 hi1 hlt)

theorem sorted_eq {L S : List TEv} (hd : L.Pairwise fun a b => a.id ≠ b.id) {M : List TEv} (hM : ∀ e ∈ M, e ∈ L) (hS : S.Pairwise TEv.le) (hMs : M.Pairwise TEv.le) (hp : S.Perm M) : S = M := by
  refine List.Perm.eq_of_pairwise (le := TEv.le) (fun a b ha hb h1 h2 => ?_) hS hMs hp
  refine pair_inj hd (hM a (hp.subset ha)) (hM b hb) ?_
  unfold TEv.le at h1 h2
  omega

theorem QRel.nil : QRel [] [] 0 := ⟨.refl _, .nil, fun e h => by simp at h, .nil, fun e h => by simp at h, Nat.le_refl _⟩

theorem mem_take_at {L : List TEv} {i : Nat} {a : TEv} (h : a ∈ L.take i) : ∃ k, k < i ∧ k < L.length ∧ a = at' L k := by
  obtain ⟨k, hk⟩ := List.getElem?_of_mem h
  have h1 : k < (L.take i).length := by
    rcases Nat.lt_or_ge k (L.take i).length with h | h
    · exact h
    · rw [List.getElem?_eq_none h] at hk; cases hk
  rw [List.length_take] at h1
  rw [List.getElem?_take, if_pos (by omega), at_some (by omega)] at hk
  exact ⟨k, by omega, by omega, (Option.some.inj hk).symm⟩

theorem mem_drop_at {L : List TEv} {i : Nat} {a : TEv} (h : a ∈ L.drop i) : ∃ k, i ≤ k ∧ k < L.length ∧ a = at' L k := by
  obtain ⟨k, hk⟩ := List.getElem?_of_mem h
  have h1 : k < (L.drop i).length := by
    rcases Nat.lt_or_ge k (L.drop i).length with h | h
    · exact h
    · rw [List.getElem?_eq_none h] at hk; cases hk
  rw [List.length_drop] at h1
  rw [List.getElem?_drop, at_some (by omega)] at hk
  exact ⟨i + k, by omega, by omega, (Option.some.inj hk).symm⟩

theorem sorted_at {L : List TEv} (h : L.Pairwise TEv.le) {i j : Nat} (hij : i ≤ j) (hj : j < L.length) : (at' L i).le (at' L j) := by
  rcases Nat.lt_or_eq_of_le hij with h1 | h1
  · have h2 := List.pairwise_iff_getElem.1 h i j (by omega) hj h1
    simpa [at', List.getD_eq_getElem?_getD, hj, show i < L.length by omega] using h2
  · subst h1; exact TEv.le_refl _

theorem QRel.add {xs ys L L' : List TEv} {last : Nat} {e : TEv} (h : QRel xs L last) (he : e.id = last + 1) (hd : e.due ≤ 1099511627776) (hy : ys.Perm (xs ++ [e])) (hi : Inserted L L' e) : QRel ys L' (last + 1) := by
  obtain ⟨i, hil, h1, h2, rfl⟩ := hi.how
  have hperm : (L.take i ++ [e] ++ L.drop i).Perm (L ++ [e]) := by
    rw [List.append_assoc]
    refine (List.perm_append_comm.append_left (L.take i)).trans ?_
    rw [← List.append_assoc, List.take_append_drop]
  have hmem : ∀ a, a ∈ L.take i ++ [e] ++ L.drop i → a ∈ L ∨ a = e := fun a ha => by
    rcases List.mem_append.1 (hperm.subset ha) with h | h
    · exact .inl h
    · exact .inr (List.mem_singleton.1 h)
  refine ⟨(hy.trans (h.perm.append_right _)).trans hperm.symm, ?_, fun a ha => ?_, ?_, fun a ha => ?_, ?_⟩
  · rw [List.append_assoc, List.pairwise_append]
    have hbefore : ∀ a ∈ L.take i, a.le e := fun a ha => by
      obtain ⟨k, hk, hkl, rfl⟩ := mem_take_at ha
      have h3 := h1 k hk
      have h4 := (h.ids _ (List.mem_of_getElem? (at_some hkl))).2
      unfold TEv.le
      omega
    have hafter : ∀ a ∈ L.drop i, e.le a := fun a ha => by
      obtain ⟨k, hk, hkl, rfl⟩ := mem_drop_at ha
      have h3 := h2 (by omega)
      have h4 := TEv.le_due (sorted_at h.sorted hk hkl)
      unfold TEv.le
      omega
    refine ⟨h.sorted.sublist (List.take_sublist _ _), ?_, fun a ha b hb => ?_⟩
    · rw [List.singleton_append, List.pairwise_cons]
      exact ⟨hafter, h.sorted.sublist (List.drop_sublist _ _)⟩
    · rcases List.mem_append.1 hb with hb | hb
      · rw [List.mem_singleton.1 hb]; exact hbefore a ha
      · obtain ⟨k, hk, hkl, rfl⟩ := mem_take_at ha
        obtain ⟨m, hm, hml, rfl⟩ := mem_drop_at hb
        exact sorted_at h.sorted (by omega) hml
  · rcases hmem a ha with h3 | h3
    · have := h.ids a h3; omega
    · rw [h3, he]; omega
  · refine (hperm.pairwise_iff (fun h => fun he => h he.symm)).2 ?_
    rw [List.pairwise_append]
    refine ⟨h.dist, List.pairwise_singleton _ _, fun a ha b hb => ?_⟩
    rw [List.mem_singleton.1 hb, he]
    have := h.ids a ha
    omega
  · rcases hmem a ha with h3 | h3
    · exact h.due a h3
    · rw [h3]; exact hd
  · have := hperm.length_eq
    rw [this, List.length_append, List.length_singleton]
    have := h.len
    omega

theorem QRel.cancel {xs ys L : List TEv} {last : Nat} {e : TEv} {id : Int} (h : QRel xs L last) (he : (e.id : Int) = id) (hy : (e :: ys).Perm xs) : QRel ys (L.filter fun a => decide ((a.id : Int) ≠ id)) last := by
  have h1 := hy.trans h.perm
  have hd : (e :: ys).Pairwise fun a b => a.id ≠ b.id := (h1.pairwise_iff (fun h => fun he => h he.symm)).2 h.dist
  have hc := (List.pairwise_cons.1 hd).1
  have h2 := h1.filter fun a => decide ((a.id : Int) ≠ id)
  have e1 : (e :: ys).filter (fun a => decide ((a.id : Int) ≠ id)) = ys := by
    rw [List.filter_cons_of_neg (by simp [he])]
    exact List.filter_eq_self.2 fun a ha => decide_eq_true (by have := hc a ha; omega)
  rw [e1] at h2
  have hs := List.filter_sublist (p := fun a : TEv => decide ((a.id : Int) ≠ id)) (l := L)
  exact ⟨h2, h.sorted.sublist hs, fun a ha => h.ids a (hs.subset ha), h.dist.sublist hs, fun a ha => h.due a (hs.subset ha), Nat.le_trans hs.length_le h.len⟩

theorem QRel.pop {xs out ys L : List TEv} {last n : Nat} {now : Int} (h : QRel xs L last) (hp : Popped xs out ys now) (hn : n ≤ L.length) (h1 : ∀ k, k < n → ((at' L k).due : Int) ≤ now) (h2 : n < L.length → now < ((at' L n).due : Int)) :
    out = L.take n ∧ QRel ys (L.drop n) last := by
  have ht : ∀ a ∈ L.take n, (a.due : Int) ≤ now := fun a ha => by
    obtain ⟨k, hk, hkl, rfl⟩ := mem_take_at ha
    exact h1 k hk
  have hd : ∀ a ∈ L.drop n, now < (a.due : Int) := fun a ha => by
    obtain ⟨k, hk, hkl, rfl⟩ := mem_drop_at ha
    have h3 := h2 (by omega)
    have h4 := TEv.le_due (sorted_at h.sorted hk hkl)
    omega
  have hL : Popped L (L.take n) (L.drop n) now := ⟨by rw [List.take_append_drop], h.sorted.sublist (List.take_sublist _ _), ht, hd⟩
  have ho : out.Perm (L.take n) := (hp.outP.trans (h.perm.filter _)).trans hL.outP.symm
  have hy : ys.Perm (L.drop n) := (hp.restP.trans (h.perm.filter _)).trans hL.restP.symm
  have hsub := List.drop_sublist n L
  exact ⟨sorted_eq h.dist (fun e he => (List.take_sublist n L).subset he) hp.sorted hL.sorted ho, hy, h.sorted.sublist hsub, fun a ha => h.ids a (hsub.subset ha), h.dist.sublist hsub, fun a ha => h.due a (hsub.subset ha), Nat.le_trans hsub.length_le h.len⟩

theorem QRel.events {xs out L : List TEv} {last : Nat} (h : QRel xs L last) (ho : out.Perm xs) (hs : out.Pairwise TEv.le) : out = L :=
  sorted_eq h.dist (fun _ h => h) hs h.sorted (ho.trans h.perm)

end Go.Proofs.YtgeocehgobcdjaaDoor.V
namespace Go.Proofs.YtgeocehgobcdjaaDoor
open Go.Proofs.YtgeocehgobcdjaaDoor.V

abbrev EN (n : Nat) : Value := ErrN 63 n

theorem num_en [Strm] (e : Nat) (w : World) (F : List (Nat × Obj)) (hE : ErrIn F) (H : SL w F) : Does Tryd.prog 9 #[EN e] w fun r w' => r = .int .i64 (e : Int) ∧ SL w' F := by
  cases e with
  | zero => exact num_nil w F H
  | succ n => exact num_spec _ w F hE H

/-- Add: whatever is laid in. -/
theorem add_all [Strm] (b : Nat) (xs : List TEv) (last : Nat) (due : Int) (name : List UInt8) (hx : xs.length < 1000000) (hl : last < 1000000) (A : List (Nat × Obj)) (w : World) (F : List (Nat × Obj)) (hA : QH b xs last A) (H : SL w (A ++ F)) :
    Does Tryd.prog 7 #[.pointer (some ⟨b, 0, none⟩), .int .i64 due, .string ⟨name.toArray⟩] w fun r w' => ∃ ys last' A', r = .tuple #[.int .i64 (addNum last due name : Int), EN (addErr due name)] ∧
      ((addErr due name ≠ 0 ∧ ys = xs ∧ last' = last) ∨ (addErr due name = 0 ∧ 0 ≤ due ∧ due ≤ 1099511627776 ∧ ys.Perm (xs ++ [⟨last + 1, due.toNat, name⟩]) ∧ last' = last + 1)) ∧ QH b ys last' A' ∧ SL w' (A' ++ F) := by
  by_cases h1 : due < 0 ∨ 1099511627776 < due
  · have e : addErr due name = 4 := by simp [addErr, h1]
    simp only [addNum, e]
    exact (add_range b due _ h1 w _ H).mono fun r w' ⟨hr, H⟩ => ⟨xs, last, A, hr, .inl ⟨by simp, rfl, rfl⟩, hA, H⟩
  by_cases h2 : 64 < name.length
  · have e : addErr due name = 2 := by simp [addErr, h1, h2]
    simp only [addNum, e]
    exact (add_long b due name (by omega) (by omega) h2 w _ H).mono fun r w' ⟨hr, H⟩ => ⟨xs, last, A, hr, .inl ⟨by simp, rfl, rfl⟩, hA, H⟩
  · have e : addErr due name = 0 := by simp [addErr, h1, h2]
    simp only [addNum, e]
    obtain ⟨d, rfl⟩ : ∃ d : Nat, due = (d : Int) := ⟨due.toNat, by omega⟩
    exact (add_spec b xs last d name (by omega) (by omega) hx hl A w F hA H).mono fun r w' ⟨ys, A', hr, hp, hA, H⟩ => ⟨ys, last + 1, A', hr, .inr ⟨by trivial, by omega, by omega, by rw [Int.toNat_natCast]; exact hp, rfl⟩, hA, H⟩

theorem radd_all [Strm] (L : List TEv) (last : Nat) (x : TX) (due : Int) (name : List UInt8) (hL : L.length < 1000000) (hl : last < 1000000) (w : World) (X G : List (Nat × Obj)) (hG : ∀ p ∈ G, p ∈ X) (hR : RefT G L x) (H : SL w X) :
    Does Tryd.prog 8 #[TVal L last x, .int .i64 due, .string ⟨name.toArray⟩] w fun r w' => ∃ L' last' B x', r = .tuple #[TVal L' last' x', .int .i64 (addNum last due name : Int), .int .i64 (addErr due name : Int)] ∧
      ((addErr due name ≠ 0 ∧ L' = L ∧ last' = last) ∨ (addErr due name = 0 ∧ Inserted L L' ⟨last + 1, due.toNat, name⟩ ∧ last' = last + 1)) ∧ RefT (B ++ G) L' x' ∧ SL w' (B ++ X) := by
  by_cases h1 : due < 0 ∨ 1099511627776 < due
  · have e : addErr due name = 4 := by simp [addErr, h1]
    simp only [addNum, e]
    exact (radd_range L last x due _ h1 w _ H).mono fun r w' ⟨hr, H⟩ => ⟨L, last, [], x, hr, .inl ⟨by simp, rfl, rfl⟩, hR, H⟩
  by_cases h2 : 64 < name.length
  · have e : addErr due name = 2 := by simp [addErr, h1, h2]
    simp only [addNum, e]
    exact (radd_long L last x due name (by omega) (by omega) h2 w _ H).mono fun r w' ⟨hr, H⟩ => ⟨L, last, [], x, hr, .inl ⟨by simp, rfl, rfl⟩, hR, H⟩
  · have e : addErr due name = 0 := by simp [addErr, h1, h2]
    simp only [addNum, e]
    obtain ⟨d, rfl⟩ : ∃ d : Nat, due = (d : Int) := ⟨due.toNat, by omega⟩
    exact (radd_spec L last x d name (by omega) (by omega) hL hl w X G hG hR H).mono fun r w' ⟨L', B, x', hr, hi, hR, H⟩ => ⟨L', last + 1, B, x', hr, .inr ⟨by trivial, by rw [Int.toNat_natCast]; exact hi, rfl⟩, hR, H⟩

/-- Both, at one event. -/
theorem rel_add {xs ys L L' : List TEv} {last l1 l2 : Nat} {due : Int} {name : List UInt8} (h : QRel xs L last)
    (h1 : (addErr due name ≠ 0 ∧ ys = xs ∧ l1 = last) ∨ (addErr due name = 0 ∧ 0 ≤ due ∧ due ≤ 1099511627776 ∧ ys.Perm (xs ++ [⟨last + 1, due.toNat, name⟩]) ∧ l1 = last + 1))
    (h2 : (addErr due name ≠ 0 ∧ L' = L ∧ l2 = last) ∨ (addErr due name = 0 ∧ Inserted L L' ⟨last + 1, due.toNat, name⟩ ∧ l2 = last + 1)) : l1 = l2 ∧ QRel ys L' l1 ∧ l1 ≤ last + 1 := by
  rcases h1 with ⟨a, rfl, rfl⟩ | ⟨a, d0, d1, b, rfl⟩
  · rcases h2 with ⟨_, rfl, rfl⟩ | ⟨a', _⟩
    · exact ⟨rfl, h, Nat.le_succ _⟩
    · exact absurd a' a
  · rcases h2 with ⟨a', _⟩ | ⟨_, c, rfl⟩
    · exact absurd a a'
    · exact ⟨rfl, h.add rfl (by simp only; omega) b c, Nat.le_refl _⟩

end Go.Proofs.YtgeocehgobcdjaaDoor
