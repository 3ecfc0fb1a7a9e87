/-
  The proof's parts, in one file: ShO, ShP, ShQ, ShS, PagesB.
-/
import Derived.Test.YtflfaiakenahlaaGreatDoorM5
import Derived.Test.YtflfaiakenahlaaGreatDoorM2

section
/-
  Layer 10 in plain words: what laying does to a store, and what a crash leaves. No program here.
-/
namespace Go.Proofs.YtflfaiakenahlaaGreatDoor.V

/-- The pages hold these leaves. -/
structure LaidS (P : List (List UInt8)) (fr count : Nat) (l : List Lf) : Prop where
  rng : fr + count ≤ P.length
  root : P.getD fr [] = rootM l count ∨ (l = [] ∧ P.getD fr [] = [])
  leaf : ∀ y ∈ l, P.getD (fr + y.place) [] = pageM y.key y.val

theorem LaidS.same {P P' : List (List UInt8)} {fr count : Nat} {l : List Lf} (h : LaidS P fr count l) (hl : P'.length = P.length) (h0 : P'.getD fr [] = P.getD fr []) (h1 : ∀ y ∈ l, P'.getD (fr + y.place) [] = P.getD (fr + y.place) []) : LaidS P' fr count l :=
  ⟨by rw [hl]; exact h.rng, by rw [h0]; exact h.root, fun y hy => by rw [h1 y hy]; exact h.leaf y hy⟩

def writesM (st : St) (fr : Nat) : List Lf → St × Nat
  | [] => (st, 0)
  | y :: r => if (st.write ((fr + y.place : Nat) : Int) (pageM y.key y.val)).2 ≠ 0 then st.write ((fr + y.place : Nat) : Int) (pageM y.key y.val) else writesM (st.write ((fr + y.place : Nat) : Int) (pageM y.key y.val)).1 fr r

def layM (st : St) (fr count : Nat) (laid now : List Lf) : St × Nat :=
  if (writesM st fr laid).2 ≠ 0 then writesM st fr laid
  else if (if laid = [] then ((writesM st fr laid).1, 0) else (writesM st fr laid).1.sync).2 ≠ 0 then (if laid = [] then ((writesM st fr laid).1, 0) else (writesM st fr laid).1.sync)
  else if ((if laid = [] then ((writesM st fr laid).1, 0) else (writesM st fr laid).1.sync).1.write (fr : Int) (rootM now count)).2 ≠ 0 then ((if laid = [] then ((writesM st fr laid).1, 0) else (writesM st fr laid).1.sync).1.write (fr : Int) (rootM now count))
  else ((if laid = [] then ((writesM st fr laid).1, 0) else (writesM st fr laid).1.sync).1.write (fr : Int) (rootM now count)).1.sync

/-- A step: it goes on, or the store crashes. -/
theorem step_cases (s : St) (hd : s.down = false) :
    (s.step.2 = 0 ∧ s.step.1.P = s.P ∧ s.step.1.Q = s.Q ∧ s.step.1.down = false ∧ (s.armed = false → s.step.1.armed = false)) ∨ (s.step.2 = 13 ∧ s.step.1.P = s.P ∧ s.step.1.Q = s.Q ∧ s.step.1.down = true ∧ s.armed = true) := by
  unfold St.step
  by_cases h1 : s.armed = false
  · rw [if_pos h1]; exact .inl ⟨rfl, rfl, rfl, hd, fun h => h⟩
  · rw [if_neg h1]
    by_cases h2 : s.left = 0
    · rw [if_pos h2]; exact .inr ⟨rfl, rfl, rfl, rfl, by simpa using h1⟩
    · rw [if_neg h2]; exact .inl ⟨rfl, rfl, rfl, hd, fun h => absurd h h1⟩

theorem write_cases (s : St) (p : Nat) (bs : List UInt8) (hd : s.down = false) (hp : p < s.P.length) (hb : bs.length ≤ 4096) :
    ((s.write (p : Int) bs).2 = 0 ∧ (s.write (p : Int) bs).1.P = s.P ∧ (s.write (p : Int) bs).1.Q = s.Q ++ [(p, bs)] ∧ (s.write (p : Int) bs).1.down = false ∧ (s.armed = false → (s.write (p : Int) bs).1.armed = false)) ∨
    ((s.write (p : Int) bs).2 = 13 ∧ (s.write (p : Int) bs).1.P = s.P ∧ (s.write (p : Int) bs).1.Q = s.Q ++ [(p, bs)] ∧ (s.write (p : Int) bs).1.down = true ∧ s.armed = true) := by
  have e1 : s.write (p : Int) bs = (s.push p bs).step := by
    unfold St.write
    rw [if_neg, if_neg (by omega), if_neg (by rw [hd]; decide), Int.toNat_natCast]
    unfold St.has
    simp [hp]
  rw [e1]
  exact step_cases (s.push p bs) hd

def pendM (fr : Nat) (laid : List Lf) : List (Nat × List UInt8) := laid.map fun y => (fr + y.place, pageM y.key y.val)

theorem writes_cases (fr : Nat) : ∀ (laid : List Lf) (s : St), s.down = false → (∀ y ∈ laid, fr + y.place < s.P.length ∧ (pageM y.key y.val).length ≤ 4096) →
    ((writesM s fr laid).2 = 0 ∧ (writesM s fr laid).1.P = s.P ∧ (writesM s fr laid).1.Q = s.Q ++ pendM fr laid ∧ (writesM s fr laid).1.down = false ∧ (s.armed = false → (writesM s fr laid).1.armed = false)) ∨
    ((writesM s fr laid).2 = 13 ∧ (writesM s fr laid).1.P = s.P ∧ (∃ k, (writesM s fr laid).1.Q = s.Q ++ (pendM fr laid).take k) ∧ (writesM s fr laid).1.down = true ∧ s.armed = true)
  | [], s, hd, _ => .inl ⟨rfl, rfl, by simp [writesM, pendM], hd, fun h => h⟩
  | y :: r, s, hd, hl => by
    obtain ⟨h1, h2⟩ := hl y (.head _)
    rcases write_cases s (fr + y.place) (pageM y.key y.val) hd h1 h2 with ⟨g1, g2, g3, g4, g5⟩ | ⟨g1, g2, g3, g4, g5⟩
    · have e1 : writesM s fr (y :: r) = writesM (s.write ((fr + y.place : Nat) : Int) (pageM y.key y.val)).1 fr r := by
        conv => lhs; unfold writesM
        rw [if_neg (by rw [g1]; decide)]
      rw [e1]
      rcases writes_cases fr r (s.write ((fr + y.place : Nat) : Int) (pageM y.key y.val)).1 g4 (fun z hz => by rw [g2]; exact hl z (.tail _ hz)) with ⟨k1, k2, k3, k4, k5⟩ | ⟨k1, k2, ⟨k, k3⟩, k4, k5⟩
      · exact .inl ⟨k1, k2.trans g2, by rw [k3, g3]; simp [pendM], k4, fun h => k5 (g5 h)⟩
      · refine .inr ⟨k1, k2.trans g2, ⟨k + 1, by rw [k3, g3]; simp [pendM]⟩, k4, ?_⟩
        cases ha : s.armed with
        | true => rfl
        | false => rw [g5 ha] at k5; cases k5
    · have e1 : writesM s fr (y :: r) = s.write ((fr + y.place : Nat) : Int) (pageM y.key y.val) := by
        conv => lhs; unfold writesM
        rw [if_pos (by rw [g1]; decide)]
      rw [e1]
      exact .inr ⟨g1, g2, ⟨1, by rw [g3]; simp [pendM]⟩, g4, g5⟩

theorem setl_other {kept : Nat → Bool} {Q : List (Nat × List UInt8)} {P : List (List UInt8)} {p : Nat} (h : ∀ q ∈ Q, q.1 ≠ p) : ∀ n, n ≤ Q.length → (setl kept Q P n).getD p [] = P.getD p []
  | 0, _ => rfl
  | n + 1, hn => by
    have ih := setl_other (kept := kept) (P := P) h n (by omega)
    have hq := h _ (getD_mem (d := (0, [])) (show n < Q.length by omega))
    unfold setl
    split
    · rw [List.getD_eq_getElem?_getD, List.getElem?_set, if_neg hq, ← List.getD_eq_getElem?_getD]
      exact ih
    · exact ih

theorem setl_all {Q : List (Nat × List UInt8)} {P : List (List UInt8)} (hn : (Q.map (·.1)).Nodup) (hp : ∀ q ∈ Q, q.1 < P.length) : ∀ n, n ≤ Q.length → ∀ i, i < n → (setl (fun _ => true) Q P n).getD (Q.getD i (0, [])).1 [] = (Q.getD i (0, [])).2
  | 0, _, i, hi => by omega
  | n + 1, hle, i, hi => by
    have hq := hp _ (getD_mem (d := (0, [])) (show n < Q.length by omega))
    unfold setl
    rw [if_pos rfl]
    rcases Nat.lt_or_eq_of_le (Nat.le_of_lt_succ hi) with h1 | h1
    · have hne : (Q.getD n (0, [])).1 ≠ (Q.getD i (0, [])).1 := fun he => by
        have h2 : (Q.map (·.1))[i]? = some (Q.getD i (0, [])).1 := map_getD (by omega)
        have h3 : (Q.map (·.1))[n]? = some (Q.getD n (0, [])).1 := map_getD (by omega)
        rw [he] at h3
        have h4 := (List.getElem?_inj (i := i) (j := n) (by rw [List.length_map]; omega) hn).1 (h2.trans h3.symm)
        omega
      rw [List.getD_eq_getElem?_getD, List.getElem?_set, if_neg hne, ← List.getD_eq_getElem?_getD]
      exact setl_all hn hp n (by omega) i h1
    · subst h1
      rw [List.getD_eq_getElem?_getD, List.getElem?_set, if_pos rfl, if_pos (by rw [setl_len]; exact hq)]
      rfl

theorem sync_cases (s : St) (hd : s.down = false) :
    (s.sync.2 = 0 ∧ s.sync.1.P = setl (fun _ => true) s.Q s.P s.Q.length ∧ s.sync.1.Q = [] ∧ s.sync.1.down = false ∧ (s.armed = false → s.sync.1.armed = false)) ∨ (s.sync.2 = 13 ∧ s.sync.1.P = s.P ∧ s.sync.1.Q = s.Q ∧ s.sync.1.down = true ∧ s.armed = true) := by
  unfold St.sync
  rw [if_neg (by rw [hd]; decide)]
  rcases step_cases s hd with ⟨g1, g2, g3, g4, g5⟩ | ⟨g1, g2, g3, g4, g5⟩
  · rw [if_pos g1]
    refine .inl ⟨rfl, ?_, rfl, g4, g5⟩
    show setl _ s.step.1.Q s.step.1.P s.step.1.Q.length = _
    rw [g2, g3]
  · rw [if_neg (by rw [g1]; decide)]
    exact .inr ⟨g1, g2, g3, g4, g5⟩

theorem start_P (s : St) (kept : Nat → Bool) : (s.start kept).P = setl kept s.Q s.P s.Q.length := rfl

/-- Writes that go to places that hold nothing leave what is there. -/
theorem laid_away {P : List (List UInt8)} {fr count : Nat} {l : List Lf} {Q : List (Nat × List UInt8)} {kept : Nat → Bool} (h : LaidS P fr count l) (hQ : ∀ q ∈ Q, q.1 ≠ fr ∧ ∀ y ∈ l, q.1 ≠ fr + y.place) : LaidS (setl kept Q P Q.length) fr count l :=
  h.same (setl_len _) (setl_other (fun q hq => (hQ q hq).1) _ (Nat.le_refl _)) fun y hy => setl_other (fun q hq => (hQ q hq).2 y hy) _ (Nat.le_refl _)

theorem lay_effect {st : St} {fr count : Nat} {l : List Lf} {ch : List Ch} (hd : st.down = false) (hQ : st.Q = []) (hL : LaidS st.P fr count l) (hok : OkL l count) (hn : (ch.map Ch.key).Nodup) (hle : (ch.filter fun x => !x.gone).length ≤ (freeM l count).length)
    (hfit : ∀ x ∈ ch, x.gone = false → (pageM x.key x.val).length ≤ 4096) (hc : count ≤ 256) (hc1 : 1 ≤ count) :
    ((layM st fr count (laidM ch (freeM l count)) (applyM l ch (freeM l count))).2 = 0 ∧ (layM st fr count (laidM ch (freeM l count)) (applyM l ch (freeM l count))).1.down = false ∧
      (layM st fr count (laidM ch (freeM l count)) (applyM l ch (freeM l count))).1.Q = [] ∧ (layM st fr count (laidM ch (freeM l count)) (applyM l ch (freeM l count))).1.P.length = st.P.length ∧
      (st.armed = false → (layM st fr count (laidM ch (freeM l count)) (applyM l ch (freeM l count))).1.armed = false) ∧
      LaidS (layM st fr count (laidM ch (freeM l count)) (applyM l ch (freeM l count))).1.P fr count (applyM l ch (freeM l count)) ∧
      (layM st fr count (laidM ch (freeM l count)) (applyM l ch (freeM l count))).1.P.getD fr [] = rootM (applyM l ch (freeM l count)) count ∧
      ∀ p, p < fr ∨ fr + count ≤ p → (layM st fr count (laidM ch (freeM l count)) (applyM l ch (freeM l count))).1.P.getD p [] = st.P.getD p []) ∨
    ((layM st fr count (laidM ch (freeM l count)) (applyM l ch (freeM l count))).2 = 13 ∧ (layM st fr count (laidM ch (freeM l count)) (applyM l ch (freeM l count))).1.down = true ∧ st.armed = true ∧
      ∀ kept, (LaidS ((layM st fr count (laidM ch (freeM l count)) (applyM l ch (freeM l count))).1.start kept).P fr count l ∨
        LaidS ((layM st fr count (laidM ch (freeM l count)) (applyM l ch (freeM l count))).1.start kept).P fr count (applyM l ch (freeM l count)))) := by
  obtain ⟨hnd, hfree⟩ := laid_free (l := l) (count := count) (ch := ch) hle
  have hM := apply_ok hok hn hle hfit
  have hperm := apply_perm ch l (freeM l count) hn
  generalize laidM ch (freeM l count) = laid at *
  generalize applyM l ch (freeM l count) = M at *
  have hrng := hL.rng
  have hlfit : ∀ y ∈ laid, fr + y.place < st.P.length ∧ (pageM y.key y.val).length ≤ 4096 := fun y hy => by
    have h1 := (hfree y hy).1
    exact ⟨by omega, hM.fit y (hperm.symm.subset (List.mem_append_right _ hy))⟩
  have haway : ∀ q ∈ pendM fr laid, q.1 ≠ fr ∧ ∀ y ∈ l, q.1 ≠ fr + y.place := fun q hq => by
    obtain ⟨z, hz, rfl⟩ := List.mem_map.1 hq
    have h1 := hfree z hz
    exact ⟨by simp only; omega, fun y hy he => h1.2 y hy (by simp only at he; omega)⟩
  have hpn : ((pendM fr laid).map (·.1)).Nodup := by
    unfold pendM
    rw [List.map_map]
    have : (laid.map fun y => fr + y.place) = (laid.map Lf.place).map fun p => fr + p := by rw [List.map_map]; rfl
    show (laid.map fun y => fr + y.place).Nodup
    rw [this, List.nodup_iff_pairwise_ne, List.pairwise_map]
    exact (List.nodup_iff_pairwise_ne.1 hnd).imp fun {a b} (h : a ≠ b) => by omega
  have hroot := (root_len hM).2
  have hMl := (free_len hM).2
  unfold layM
  rcases writes_cases fr laid st hd hlfit with ⟨a1, a2, a3, a4, a5⟩ | ⟨a1, a2, ⟨k, a3⟩, a4, a5⟩
  case inr =>
    rw [if_pos (by rw [a1]; decide)]
    refine .inr ⟨a1, a4, a5, fun kept => .inl ?_⟩
    rw [start_P, a2, a3, hQ, List.nil_append]
    exact laid_away hL fun q hq => haway q ((List.take_sublist _ _).subset hq)
  rw [if_neg (by rw [a1]; decide)]
  generalize (writesM st fr laid).1 = s1 at *
  rw [hQ, List.nil_append] at a3
  -- behind the first Sync
  have hs2 : ∀ s2 : St × Nat, s2 = (if laid = [] then (s1, 0) else s1.sync) →
      (s2.2 = 0 ∧ s2.1.P.length = st.P.length ∧ (∀ p, (∀ y ∈ laid, p ≠ fr + y.place) → s2.1.P.getD p [] = st.P.getD p []) ∧ (∀ y ∈ laid, s2.1.P.getD (fr + y.place) [] = pageM y.key y.val) ∧ s2.1.Q = [] ∧ s2.1.down = false ∧ (st.armed = false → s2.1.armed = false)) ∨
      (s2.2 = 13 ∧ s2.1.down = true ∧ st.armed = true ∧ ∀ kept, LaidS (s2.1.start kept).P fr count l) := by
    rintro s2 rfl
    by_cases hl0 : laid = []
    · rw [if_pos hl0]
      refine .inl ⟨rfl, by rw [a2], fun p _ => by rw [a2], fun y hy => (by rw [hl0] at hy; cases hy), ?_, a4, a5⟩
      rw [a3, hl0]; rfl
    · rw [if_neg hl0]
      rcases sync_cases s1 a4 with ⟨b1, b2, b3, b4, b5⟩ | ⟨b1, b2, b3, b4, b5⟩
      · refine .inl ⟨b1, by rw [b2, setl_len, a2], fun p hp => ?_, fun y hy => ?_, b3, b4, fun h => b5 (a5 h)⟩
        · rw [b2, a2, a3]
          refine setl_other (fun q hq => ?_) _ (Nat.le_refl _)
          obtain ⟨z, hz, rfl⟩ := List.mem_map.1 hq
          exact fun he => hp z hz he.symm
        · rw [b2, a2, a3]
          obtain ⟨i, hi, he⟩ := List.mem_iff_getElem.1 hy
          have h5 := setl_all (P := st.P) hpn (fun q hq => by
            obtain ⟨z, hz, rfl⟩ := List.mem_map.1 hq
            exact (hlfit z hz).1) (pendM fr laid).length (Nat.le_refl _) i (by simpa [pendM] using hi)
          have e5 : (pendM fr laid).getD i (0, []) = (fr + y.place, pageM y.key y.val) := by
            unfold pendM
            rw [List.getD_eq_getElem?_getD, List.getElem?_map, List.getElem?_eq_getElem hi, he]
            rfl
          rw [e5] at h5
          exact h5
      · refine .inr ⟨b1, b4, ?_, fun kept => ?_⟩
        · cases ha : st.armed with
          | true => rfl
          | false => rw [a5 ha] at b5; cases b5
        · rw [start_P, b2, b3, a2, a3]
          exact laid_away hL haway
  rcases hs2 _ rfl with ⟨c1, c2, c3, c4, c5, c6, c7⟩ | ⟨c1, c2, c3, c4⟩
  case inr =>
    rw [if_pos (by rw [c1]; decide)]
    exact .inr ⟨c1, c2, c3, fun kept => .inl (c4 kept)⟩
  rw [if_neg (by rw [c1]; decide)]
  generalize (if laid = [] then (s1, 0) else s1.sync).1 = s2 at *
  -- what the pages hold with the root, or without it
  have hold : LaidS s2.P fr count l := hL.same c2 (c3 fr fun y hy => by have := (hfree y hy).1; omega) fun y hy => c3 _ fun z hz he => (hfree z hz).2 y hy (by omega)
  have hnew : LaidS (s2.P.set fr (rootM M count)) fr count M := by
    refine ⟨by rw [List.length_set, c2]; exact hrng, .inl ?_, fun y hy => ?_⟩
    · rw [List.getD_eq_getElem?_getD, List.getElem?_set, if_pos rfl, if_pos (by omega)]; rfl
    · have hpl := hM.rng y hy
      rw [List.getD_eq_getElem?_getD, List.getElem?_set, if_neg (by omega), ← List.getD_eq_getElem?_getD]
      rcases List.mem_append.1 (hperm.subset hy) with h3 | h3
      · have hyl : y ∈ l := (List.mem_filter.1 h3).1
        rw [c3 _ fun z hz he => (hfree z hz).2 y hyl (by omega)]
        exact hL.leaf y hyl
      · exact c4 y h3
  have hcrash : ∀ s : St, s.P = s2.P → s.Q = [(fr, rootM M count)] → ∀ kept, LaidS (s.start kept).P fr count l ∨ LaidS (s.start kept).P fr count M := by
    intro s e1 e2 kept
    rw [start_P, e1, e2]
    show LaidS (setl kept [(fr, rootM M count)] s2.P 1) fr count l ∨ LaidS (setl kept [(fr, rootM M count)] s2.P 1) fr count M
    unfold setl
    by_cases hk : kept 0 = true
    · rw [if_pos hk]
      exact .inr hnew
    · rw [if_neg hk]
      exact .inl hold
  rcases write_cases s2 fr (rootM M count) c6 (by omega) (by omega) with ⟨d1, d2, d3, d4, d5⟩ | ⟨d1, d2, d3, d4, d5⟩
  case inr =>
    rw [if_pos (by rw [d1]; decide)]
    refine .inr ⟨d1, d4, ?_, hcrash _ d2 (by rw [d3, c5]; rfl)⟩
    cases ha : st.armed with
    | true => rfl
    | false => rw [c7 ha] at d5; cases d5
  rw [if_neg (by rw [d1]; decide)]
  generalize (s2.write (fr : Int) (rootM M count)).1 = s3 at *
  rw [c5, List.nil_append] at d3
  rcases sync_cases s3 d4 with ⟨f1, f2, f3, f4, f5⟩ | ⟨f1, f2, f3, f4, f5⟩
  · have e6 : s3.sync.1.P = s2.P.set fr (rootM M count) := by
      rw [f2, d3, d2]
      rfl
    refine .inl ⟨f1, f4, f3, by rw [e6, List.length_set]; exact c2, fun h => f5 (d5 (c7 h)), by rw [e6]; exact hnew, ?_, fun p hp => ?_⟩
    · rw [e6, List.getD_eq_getElem?_getD, List.getElem?_set, if_pos rfl, if_pos (by omega)]; rfl
    · rw [e6, List.getD_eq_getElem?_getD, List.getElem?_set, if_neg (by omega), ← List.getD_eq_getElem?_getD]
      exact c3 p fun y hy => by have := (hfree y hy).1; omega
  · refine .inr ⟨f1, f4, ?_, hcrash _ (f2.trans d2) (f3.trans d3)⟩
    cases ha : st.armed with
    | true => rfl
    | false => rw [d5 (c7 ha)] at f5; cases f5

end Go.Proofs.YtflfaiakenahlaaGreatDoor.V
end

section
/-
  The shelf, walked: a leaf's bytes, Get, Free, Keys.
-/
namespace Go.Proofs.YtflfaiakenahlaaGreatDoor.V

/-- A field's type, and where it lies. -/
def fieldTO (P : Program) (s i : Nat) : Option (TypeId × Nat) := match P.underlying s with
  | some (.struct fs) => (fs[i]?).map fun f => (f.type, f.offset)
  | _ => none

section
variable {P : Program} {w : World} {e : Env} {ty t k v : TypeId} {x y : Operand} {L : List (Nat × Obj)}
/-- A field of a struct that is a value. -/
theorem Ev.field {s i ft o : Nat} {cs : Array Value} {u : Value} (hx : e.val x = some (.agg cs)) (hf : fieldTO P s i = some (ft, o)) (hp : plainT P ft = true) (hv : cs[o]? = some u) : Ev P w e (.field s x i) ty u := .of fun ρ hρ _ _ _ _ => by
  unfold fieldTO at hf
  cases hu : P.underlying s with
  | none => rw [hu] at hf; cases hf
  | some d =>
    rw [hu] at hf
    cases d <;> first | (cases hf; done) | skip
    rename_i fs
    simp only at hf
    cases hi : fs[i]? with
    | none => rw [hi] at hf; cases hf
    | some f =>
      rw [hi] at hf
      simp only [Option.map_some, Option.some.injEq, Prod.mk.injEq] at hf
      obtain ⟨rfl, rfl⟩ := hf
      have h1 := run_underlying (w := w) hu
      have h2 := run_isAgg_plain hp w
      simp [execOp, hρ _ _ hx, Instr.field, h1, hi, part, h2, hv, asAgg]

theorem Ev.lenMapS [Strm] {b : Nat} {o : Obj} {l : List KV} {ats : Array TypeId} (H : SL w L) (T : MapSP P t k v) (hx : e.val x = some (.map (some b))) (ha : ats[0]? = some t) (hm : (b, o) ∈ L) (ho : Mp o l) :
    Ev P w e (.call ⟨.builtin .len, #[x], ats⟩) ty (.int .i64 (l.length : Nat)) := .of fun ρ hρ _ _ _ _ => by
  obtain ⟨es, clock, rfl, hw, hp⟩ := ho
  have hb := H.1 _ hm
  simp only [mapSO] at hb
  have hl : es.length = l.length := by rw [← hp.length_eq, List.length_map]
  have h1 := run_underlying (w := w) T.map
  simp [execOp, resolve, invoke, builtin, hρ _ _ hx, Builtin.len_, ha, h1, MapKept.run_getObj_map hb, goInt, hl]
end

theorem atK_kvL (l : List Lf) (k : List UInt8) : atK (kvL l) k = (findL l k).map leafV := by
  unfold atK kvL findL
  rw [List.find?_map]
  show Option.map _ (Option.map _ (l.find? fun y => decide (y.key = k))) = _
  rw [Option.map_map]
  rfl
theorem atK_kvC (l : List Ch) (k : List UInt8) : atK (kvC l) k = (l.find? fun y => decide (y.key = k)).map chV := by
  unfold atK kvC
  rw [List.find?_map]
  show Option.map _ (Option.map _ (l.find? fun y => decide (y.key = k))) = _
  rw [Option.map_map]
  rfl

abbrev lf0 : Lf := ⟨[], [], 0⟩
abbrev ch0 : Ch := ⟨[], [], false⟩

theorem kv_inj {y z : Lf} (h : (y.key, leafV y) = (z.key, leafV z)) : y = z := by
  obtain ⟨yk, yv, yp⟩ := y
  obtain ⟨zk, zv, zp⟩ := z
  simp only [Prod.mk.injEq, Value.agg.injEq] at h
  obtain ⟨rfl, h⟩ := h
  have h1 := Array.toList_inj.2 h
  simp only [List.cons.injEq, Value.int.injEq, true_and] at h1
  have h2 := sV_inj h1.2.1
  have h3 := h1.1
  subst h2
  congr 1
  omega

theorem kvL_keys (l : List Lf) : (kvL l).map (·.1) = l.map Lf.key := by unfold kvL; rw [List.map_map]; rfl
theorem kvC_keys (l : List Ch) : (kvC l).map (·.1) = l.map Ch.key := by unfold kvC; rw [List.map_map]; rfl

/-- A map that holds leaves, whichever. -/
theorem kv_mem {l kl : List Lf} (h : (kvL kl).Perm (kvL l)) (y : Lf) : y ∈ kl ↔ y ∈ l := by
  have h1 : ∀ {a b : List Lf}, (kvL a).Perm (kvL b) → y ∈ a → y ∈ b := fun {a b} h hy => by
    have : (y.key, leafV y) ∈ kvL b := h.subset (List.mem_map_of_mem (f := fun y : Lf => (y.key, leafV y)) hy)
    obtain ⟨z, hz, he⟩ := List.mem_map.1 this
    rw [← kv_inj he]; exact hz
  exact ⟨h1 h, h1 h.symm⟩

end Go.Proofs.YtflfaiakenahlaaGreatDoor.V
namespace Go.Proofs.YtflfaiakenahlaaGreatDoor
open Go.Proofs.YtflfaiakenahlaaGreatDoor.V

/-- A shelf: its store, its area, its leaves' map, its error. -/
abbrev shO (p fr count m dead : Nat) : Obj := .cells #[.pointer (some ⟨p, 0, none⟩), .int .i64 (fr : Int), .int .i64 (count : Int), .map (some m), EV dead] 84 (0, 0)

section
variable {w : World} {e : Env} {ty : TypeId} {x y : Operand} {L : List (Nat × Obj)}
theorem Ev.lookLf [Strm] {b : Nat} {o : Obj} {l : List Lf} {kvs : List KV} {h : List UInt8} (H : SL w L) (hx : e.val x = some (.map (some b))) (hy : e.val y = some (sV h)) (hm : (b, o) ∈ L) (ho : Mp o kvs) (hp : kvs.Perm (kvL l)) :
    Ev Tryz.prog w e (.lookup 82 x y true) ty (.tuple #[leafV ((findL l h).getD lf0), .bool (findL l h).isSome]) := by
  have h1 := Ev.lookupS (zv := leafV lf0) (ty := ty) H mapLf hx hy hm (ho.perm hp) (by kernel_rfl)
  rw [atK_kvL] at h1
  cases hf : findL l h with
  | none => rw [hf] at h1; exact h1
  | some y => rw [hf] at h1; exact h1
theorem Ev.lookLf1 [Strm] {b : Nat} {o : Obj} {l : List Lf} {kvs : List KV} {h : List UInt8} (H : SL w L) (hx : e.val x = some (.map (some b))) (hy : e.val y = some (sV h)) (hm : (b, o) ∈ L) (ho : Mp o kvs) (hp : kvs.Perm (kvL l)) :
    Ev Tryz.prog w e (.lookup 82 x y false) ty (leafV ((findL l h).getD lf0)) := by
  have h1 := Ev.lookupS1 (zv := leafV lf0) (ty := ty) H mapLf hx hy hm (ho.perm hp) (by kernel_rfl)
  rw [atK_kvL] at h1
  cases hf : findL l h with
  | none => rw [hf] at h1; exact h1
  | some y => rw [hf] at h1; exact h1
theorem Ev.lookCh1 [Strm] {b : Nat} {o : Obj} {l : List Ch} {kvs : List KV} {h : List UInt8} (H : SL w L) (hx : e.val x = some (.map (some b))) (hy : e.val y = some (sV h)) (hm : (b, o) ∈ L) (ho : Mp o kvs) (hp : kvs.Perm (kvC l)) :
    Ev Tryz.prog w e (.lookup 105 x y false) ty (chV ((l.find? fun y => decide (y.key = h)).getD ch0)) := by
  have h1 := Ev.lookupS1 (zv := chV ch0) (ty := ty) H mapCh hx hy hm (ho.perm hp) (by kernel_rfl)
  rw [atK_kvC] at h1
  cases hf : (l.find? fun y => decide (y.key = h)) with
  | none => rw [hf] at h1; exact h1
  | some y => rw [hf] at h1; exact h1
end

theorem page_spec [Strm] (k v : List UInt8) (hk : k.length ≤ 100000) (hv : v.length ≤ 100000) (w : World) (F : List (Nat × Obj)) (H : SL w F) :
    Does Tryz.prog 53 #[sV k, sV v] w fun r w' => ∃ B, Slc gB 1 5 r (pageM k v) B ∧ SL w' (B ++ F) := by
  have h1 := encB_len k
  have h2 := encB_len v
  refine Does.intro (args := [_, _]) (e := [(0, _), (1, _)]) Tryz.func53 rfl Tryz.ntmps53 rfl rfl ?_
  repeat (first | refine .seq ?_ | refine .skip ?_ | refine .block ?_ | refine .inBlock ?_ | refine .yes rfl ?_ | refine .no rfl ?_ | refine .exit rfl ?_)
  repeat (first | refine .seq ?_ | refine .skip ?_ | refine .block ?_ | refine .inBlock ?_ | refine .yes rfl ?_ | refine .no rfl ?_ | refine .exit rfl ?_)
  refine RunsE.region ?_
  refine OpsE.ev (Ev.assign rfl) rfl ?_
  refine OpsE.nil ?_
  repeat (first | refine .seq ?_ | refine .skip ?_ | refine .block ?_ | refine .inBlock ?_ | refine .yes rfl ?_ | refine .no rfl ?_ | refine .exit rfl ?_)
  refine RunsE.region ?_
  refine OpsE.ex (Ex.call rfl Tryz.call84 (wnew_spec w _ H)) rfl ?_; (try clear H); rintro _ w ⟨b, A, rfl, hA, H⟩
  refine OpsE.ev (Ev.move rfl) rfl ?_
  refine OpsE.ex (Ex.strBytes (el := 5) H rfl Tryz.underlying9 Tryz.underlying29 Tryz.underlying5) rfl ?_; (try clear H); rintro v1 w ⟨B1, hs1, H⟩
  refine OpsE.ex (Ex.call rfl Tryz.call85 (wbytes_spec k v1 hk b [] (by simp) A w (B1 ++ F) hA (Slc.inp hs1) H.swapL)) rfl ?_; (try clear H); rintro _ w ⟨A, rfl, hA, H⟩
  refine OpsE.ev (Ev.move rfl) rfl ?_
  refine OpsE.ex (Ex.strBytes (el := 5) H rfl Tryz.underlying9 Tryz.underlying29 Tryz.underlying5) rfl ?_; (try clear H); rintro v2 w ⟨B2, hs2, H⟩
  refine OpsE.ex (Ex.call rfl Tryz.call85 (wbytes_spec v v2 hv b _ (by simp; omega) A w (B2 ++ (B1 ++ F)) hA (Slc.inp hs2) H.swapL)) rfl ?_; (try clear H); rintro _ w ⟨A, rfl, hA, H⟩
  refine OpsE.ex (Ex.call rfl Tryz.call86 (wdone_spec b _ (by simp; omega) A w _ hA H)) rfl ?_; (try clear H); rintro vd w ⟨B, hs, H⟩
  refine OpsE.ev (Ev.assign rfl) rfl ?_
  refine OpsE.nil ?_
  repeat (first | refine .seq ?_ | refine .skip ?_ | refine .block ?_ | refine .inBlock ?_ | refine .yes rfl ?_ | refine .no rfl ?_ | refine .exit rfl ?_)
  exact RunsE.ret1 Tryz.func53 rfl rfl ⟨B, by simpa [pageM] using hs, H.dropIn.dropIn⟩

theorem rpage_spec [Strm] (k v : List UInt8) (hk : k.length ≤ 100000) (hv : v.length ≤ 100000) (w : World) (F : List (Nat × Obj)) (H : SL w F) :
    Does Tryz.prog 25 #[sV k, sV v] w fun r w' => ∃ B, Slc gB 1 5 r (pageM k v) B ∧ SL w' (B ++ F) := by
  have h1 := encB_len k
  have h2 := encB_len v
  refine Does.intro (args := [_, _]) (e := [(0, _), (1, _)]) Tryz.func25 rfl Tryz.ntmps25 rfl rfl ?_
  repeat (first | refine .seq ?_ | refine .skip ?_ | refine .block ?_ | refine .inBlock ?_ | refine .yes rfl ?_ | refine .no rfl ?_ | refine .exit rfl ?_)
  repeat (first | refine .seq ?_ | refine .skip ?_ | refine .block ?_ | refine .inBlock ?_ | refine .yes rfl ?_ | refine .no rfl ?_ | refine .exit rfl ?_)
  refine RunsE.region ?_
  refine OpsE.ev (Ev.assign rfl) rfl ?_
  refine OpsE.nil ?_
  repeat (first | refine .seq ?_ | refine .skip ?_ | refine .block ?_ | refine .inBlock ?_ | refine .yes rfl ?_ | refine .no rfl ?_ | refine .exit rfl ?_)
  refine RunsE.region ?_
  refine OpsE.ev (Ev.move rfl) rfl ?_
  refine OpsE.ex (Ex.strBytes (el := 5) H rfl Tryz.underlying9 Tryz.underlying29 Tryz.underlying5) rfl ?_; (try clear H); rintro v1 w ⟨B1, hs1, H⟩
  refine OpsE.ex (Ex.call rfl Tryz.call62 (refbytes_spec [] k _ v1 (by simp) (by omega) w _ .nil (Slc.inp hs1) H)) rfl ?_; (try clear H); rintro v3 w ⟨B3, hs3, H⟩
  refine OpsE.ev (Ev.move rfl) rfl ?_
  refine OpsE.ex (Ex.strBytes (el := 5) H rfl Tryz.underlying9 Tryz.underlying29 Tryz.underlying5) rfl ?_; (try clear H); rintro v2 w ⟨B2, hs2, H⟩
  refine OpsE.ex (Ex.call rfl Tryz.call62 (refbytes_spec _ v v3 v2 (by simp; omega) (by omega) w _ (hs3.inp.right) (Slc.inp hs2) H)) rfl ?_; (try clear H); rintro v4 w ⟨B4, hs4, H⟩
  refine OpsE.ev (Ev.assign rfl) rfl ?_
  refine OpsE.nil ?_
  repeat (first | refine .seq ?_ | refine .skip ?_ | refine .block ?_ | refine .inBlock ?_ | refine .yes rfl ?_ | refine .no rfl ?_ | refine .exit rfl ?_)
  exact RunsE.ret1 Tryz.func25 rfl rfl ⟨B4, by simpa [pageM] using hs4, H.dropIn.dropIn.dropIn⟩

theorem nget_spec [Strm] (k : List UInt8) (w : World) (F : List (Nat × Obj)) (H : SL w F) : Does Tryz.prog 19 #[.pointer none, sV k] w fun r w' => r = .tuple #[sV [], .bool false] ∧ SL w' F := by
  refine Does.intro (args := [_, _]) (e := [(0, _), (1, _)]) Tryz.func19 rfl Tryz.ntmps19 rfl rfl ?_
  repeat (first | refine .seq ?_ | refine .skip ?_ | refine .block ?_ | refine .inBlock ?_ | refine .yes rfl ?_ | refine .no rfl ?_ | refine .exit rfl ?_)
  repeat (first | refine .seq ?_ | refine .skip ?_ | refine .block ?_ | refine .inBlock ?_ | refine .yes rfl ?_ | refine .no rfl ?_ | refine .exit rfl ?_)
  refine RunsE.region ?_
  refine OpsE.ev (Ev.assign rfl) rfl ?_
  refine OpsE.ev (Ev.assign rfl) rfl ?_
  refine OpsE.nil ?_
  repeat (first | refine .seq ?_ | refine .skip ?_ | refine .block ?_ | refine .inBlock ?_ | refine .yes rfl ?_ | refine .no rfl ?_ | refine .exit rfl ?_)
  refine RunsE.region ?_
  refine OpsE.ev (Ev.move rfl) rfl ?_
  refine OpsE.ev (Ev.ptrNilEq (el := 84) rfl rfl (by kernel_rfl)) rfl ?_
  refine OpsE.nil ?_
  repeat (first | refine .seq ?_ | refine .skip ?_ | refine .block ?_ | refine .inBlock ?_ | refine .yes rfl ?_ | refine .no rfl ?_ | refine .exit rfl ?_)
  refine RunsE.region ?_
  refine OpsE.ev (Ev.assign rfl) rfl ?_
  refine OpsE.ev (Ev.assign rfl) rfl ?_
  refine OpsE.nil ?_
  repeat (first | refine .seq ?_ | refine .skip ?_ | refine .block ?_ | refine .inBlock ?_ | refine .yes rfl ?_ | refine .no rfl ?_ | refine .exit rfl ?_)
  exact RunsE.ret2 Tryz.func19 rfl rfl rfl ⟨rfl, H⟩

theorem get_spec [Strm] (s p fr count m dead : Nat) (o : Obj) (l : List Lf) (k : List UInt8) (w : World) (X : List (Nat × Obj)) (hs : (s, shO p fr count m dead) ∈ X) (hm : (m, o) ∈ X) (ho : Mp o (kvL l)) (H : SL w X) :
    Does Tryz.prog 19 #[.pointer (some ⟨s, 0, none⟩), sV k] w fun r w' => r = .tuple #[sV ((findL l k).getD lf0).val, .bool (findL l k).isSome] ∧ SL w' X := by
  refine Does.intro (args := [_, _]) (e := [(0, _), (1, _)]) Tryz.func19 rfl Tryz.ntmps19 rfl rfl ?_
  repeat (first | refine .seq ?_ | refine .skip ?_ | refine .block ?_ | refine .inBlock ?_ | refine .yes rfl ?_ | refine .no rfl ?_ | refine .exit rfl ?_)
  repeat (first | refine .seq ?_ | refine .skip ?_ | refine .block ?_ | refine .inBlock ?_ | refine .yes rfl ?_ | refine .no rfl ?_ | refine .exit rfl ?_)
  refine RunsE.region ?_
  refine OpsE.ev (Ev.assign rfl) rfl ?_
  refine OpsE.ev (Ev.assign rfl) rfl ?_
  refine OpsE.nil ?_
  repeat (first | refine .seq ?_ | refine .skip ?_ | refine .block ?_ | refine .inBlock ?_ | refine .yes rfl ?_ | refine .no rfl ?_ | refine .exit rfl ?_)
  refine RunsE.region ?_
  refine OpsE.ev (Ev.move rfl) rfl ?_
  refine OpsE.ev (Ev.ptrNilEq (el := 84) rfl rfl (by kernel_rfl)) rfl ?_
  refine OpsE.nil ?_
  repeat (first | refine .seq ?_ | refine .skip ?_ | refine .block ?_ | refine .inBlock ?_ | refine .yes rfl ?_ | refine .no rfl ?_ | refine .exit rfl ?_)
  refine RunsE.region ?_
  refine OpsE.ev (Ev.move rfl) rfl ?_
  refine OpsE.ev (Ev.nilCheck rfl) rfl ?_
  refine OpsE.ev (Ev.fieldAddr (o := 3) rfl (by kernel_rfl)) rfl ?_
  refine OpsE.ev (Ev.load H rfl (by kernel_rfl) (Rd.mk hs rfl)) rfl ?_
  refine OpsE.ev (Ev.move rfl) rfl ?_
  refine OpsE.ev (Ev.lookLf H rfl rfl hm ho (.refl _)) rfl ?_
  refine OpsE.ev (Ev.move rfl) rfl ?_
  refine OpsE.ev (Ev.extract rfl rfl) rfl ?_
  refine OpsE.ev (Ev.extract rfl rfl) rfl ?_
  refine OpsE.ex (Ex.alloc (zv := .agg #[.int .i64 0, .string .empty]) H (by kernel_rfl)) rfl ?_; (try clear H); rintro _ w ⟨b6, rfl, H⟩; simp only [Value.cells] at H
  refine OpsE.exn (Ex.storeBlk (n := 2) H rfl rfl (by kernel_rfl) (by first | rfl | simp) (by simp [Value.oneCell']) u0 (by first | rfl | simp) (Thaw.zero _ _)) ?_; (try clear H); intro _ w H
  refine OpsE.ev (Ev.assign rfl) rfl ?_
  refine OpsE.nil ?_
  repeat (first | refine .seq ?_ | refine .skip ?_ | refine .block ?_ | refine .inBlock ?_ | refine .yes rfl ?_ | refine .no rfl ?_ | refine .exit rfl ?_)
  refine RunsE.region ?_
  refine OpsE.ev (Ev.fieldAddr (o := 1) rfl (by kernel_rfl)) rfl ?_
  refine OpsE.ev (Ev.load H rfl (by kernel_rfl) (by first | exact Rd.mk m0 rfl | exact Rd.mk m1 rfl | exact Rd.mk m2 rfl | exact Rd.mk m3 rfl | assumption)) rfl ?_
  refine OpsE.ev (Ev.move rfl) rfl ?_
  refine OpsE.ev (Ev.assign rfl) rfl ?_
  refine OpsE.ev (Ev.assign rfl) rfl ?_
  refine OpsE.nil ?_
  repeat (first | refine .seq ?_ | refine .skip ?_ | refine .block ?_ | refine .inBlock ?_ | refine .yes rfl ?_ | refine .no rfl ?_ | refine .exit rfl ?_)
  exact RunsE.ret2 Tryz.func19 rfl rfl rfl ⟨rfl, H.drop⟩

theorem nfree_spec [Strm] (w : World) (F : List (Nat × Obj)) (H : SL w F) : Does Tryz.prog 20 #[.pointer none] w fun r w' => r = .int .i64 0 ∧ SL w' F := by
  refine Does.intro (args := [_]) (e := [(0, _)]) Tryz.func20 rfl Tryz.ntmps20 rfl rfl ?_
  repeat (first | refine .seq ?_ | refine .skip ?_ | refine .block ?_ | refine .inBlock ?_ | refine .yes rfl ?_ | refine .no rfl ?_ | refine .exit rfl ?_)
  repeat (first | refine .seq ?_ | refine .skip ?_ | refine .block ?_ | refine .inBlock ?_ | refine .yes rfl ?_ | refine .no rfl ?_ | refine .exit rfl ?_)
  refine RunsE.region ?_
  refine OpsE.ev (Ev.assign rfl) rfl ?_
  refine OpsE.nil ?_
  repeat (first | refine .seq ?_ | refine .skip ?_ | refine .block ?_ | refine .inBlock ?_ | refine .yes rfl ?_ | refine .no rfl ?_ | refine .exit rfl ?_)
  refine RunsE.region ?_
  refine OpsE.ev (Ev.move rfl) rfl ?_
  refine OpsE.ev (Ev.ptrNilEq (el := 84) rfl rfl (by kernel_rfl)) rfl ?_
  refine OpsE.nil ?_
  repeat (first | refine .seq ?_ | refine .skip ?_ | refine .block ?_ | refine .inBlock ?_ | refine .yes rfl ?_ | refine .no rfl ?_ | refine .exit rfl ?_)
  refine RunsE.region ?_
  refine OpsE.ev (Ev.assign rfl) rfl ?_
  refine OpsE.nil ?_
  repeat (first | refine .seq ?_ | refine .skip ?_ | refine .block ?_ | refine .inBlock ?_ | refine .yes rfl ?_ | refine .no rfl ?_ | refine .exit rfl ?_)
  exact RunsE.ret1 Tryz.func20 rfl rfl ⟨rfl, H⟩

theorem freen_spec [Strm] (s p fr count m dead : Nat) (o : Obj) (l : List Lf) (hc : count ≤ 1000000) (hl : l.length ≤ 1000000) (w : World) (X : List (Nat × Obj)) (hs : (s, shO p fr count m dead) ∈ X) (hm : (m, o) ∈ X) (ho : Mp o (kvL l)) (H : SL w X) :
    Does Tryz.prog 20 #[.pointer (some ⟨s, 0, none⟩)] w fun r w' => r = .int .i64 ((count : Int) - 1 - l.length) ∧ SL w' X := by
  refine Does.intro (args := [_]) (e := [(0, _)]) Tryz.func20 rfl Tryz.ntmps20 rfl rfl ?_
  repeat (first | refine .seq ?_ | refine .skip ?_ | refine .block ?_ | refine .inBlock ?_ | refine .yes rfl ?_ | refine .no rfl ?_ | refine .exit rfl ?_)
  repeat (first | refine .seq ?_ | refine .skip ?_ | refine .block ?_ | refine .inBlock ?_ | refine .yes rfl ?_ | refine .no rfl ?_ | refine .exit rfl ?_)
  refine RunsE.region ?_
  refine OpsE.ev (Ev.assign rfl) rfl ?_
  refine OpsE.nil ?_
  repeat (first | refine .seq ?_ | refine .skip ?_ | refine .block ?_ | refine .inBlock ?_ | refine .yes rfl ?_ | refine .no rfl ?_ | refine .exit rfl ?_)
  refine RunsE.region ?_
  refine OpsE.ev (Ev.move rfl) rfl ?_
  refine OpsE.ev (Ev.ptrNilEq (el := 84) rfl rfl (by kernel_rfl)) rfl ?_
  refine OpsE.nil ?_
  repeat (first | refine .seq ?_ | refine .skip ?_ | refine .block ?_ | refine .inBlock ?_ | refine .yes rfl ?_ | refine .no rfl ?_ | refine .exit rfl ?_)
  repeat (first | refine .seq ?_ | refine .skip ?_ | refine .block ?_ | refine .inBlock ?_ | refine .yes rfl ?_ | refine .no rfl ?_ | refine .exit rfl ?_)
  refine RunsE.drawS H [] (by kernel_rfl) ?_; (try clear H); intro w H
  refine OpsD.take 0 rfl (by kernel_rfl) H (fun w H => Ev.move rfl) rfl ?_
  refine OpsD.take 1 rfl (by kernel_rfl) H (fun w H => Ev.nilCheck rfl) rfl ?_
  refine OpsD.take 2 rfl (by kernel_rfl) H (fun w H => Ev.fieldAddr (o := 1) rfl (by kernel_rfl)) rfl ?_
  refine OpsD.take 3 rfl (by kernel_rfl) H (fun w H => Ev.fieldAddr (o := 1) rfl (by kernel_rfl)) rfl ?_
  refine OpsD.take 4 rfl (by kernel_rfl) H (fun w H => Ev.load H rfl (by kernel_rfl) (Rd.mk hs rfl)) rfl ?_
  refine OpsD.take 5 rfl (by kernel_rfl) H (fun w H => Ev.sub rfl rfl) rfl ?_
  refine OpsD.take 6 rfl (by kernel_rfl) H (fun w H => Ev.move rfl) rfl ?_
  refine OpsD.take 7 rfl (by kernel_rfl) H (fun w H => Ev.nilCheck rfl) rfl ?_
  refine OpsD.take 8 rfl (by kernel_rfl) H (fun w H => Ev.fieldAddr (o := 3) rfl (by kernel_rfl)) rfl ?_
  refine OpsD.take 9 rfl (by kernel_rfl) H (fun w H => Ev.load H rfl (by kernel_rfl) (Rd.mk hs rfl)) rfl ?_
  refine OpsD.take 10 rfl (by kernel_rfl) H (fun w H => Ev.lenMapS H mapLf rfl rfl hm ho) rfl ?_
  refine OpsD.take 11 rfl (by kernel_rfl) H (fun w H => Ev.sub (c := (count : Int) - 1 - l.length) rfl rfl (by unfold kvL; rw [List.length_map]; exact qi64 (by omega) (by omega))) rfl ?_
  refine OpsD.take 12 rfl (by kernel_rfl) H (fun w H => Ev.assign rfl) rfl ?_
  refine OpsD.done (by kernel_rfl) ?_
  repeat (first | refine .seq ?_ | refine .skip ?_ | refine .block ?_ | refine .inBlock ?_ | refine .yes rfl ?_ | refine .no rfl ?_ | refine .exit rfl ?_)
  exact RunsE.ret1 Tryz.func20 rfl rfl ⟨rfl, H⟩

theorem nkeys_spec [Strm] (w : World) (F : List (Nat × Obj)) (H : SL w F) : Does Tryz.prog 21 #[.pointer none] w fun r w' => r = .slice none 0 0 ∧ SL w' F := by
  refine Does.intro (args := [_]) (e := [(0, _)]) Tryz.func21 rfl Tryz.ntmps21 rfl rfl ?_
  repeat (first | refine .seq ?_ | refine .skip ?_ | refine .block ?_ | refine .inBlock ?_ | refine .yes rfl ?_ | refine .no rfl ?_ | refine .exit rfl ?_)
  repeat (first | refine .seq ?_ | refine .skip ?_ | refine .block ?_ | refine .inBlock ?_ | refine .yes rfl ?_ | refine .no rfl ?_ | refine .exit rfl ?_)
  refine RunsE.region ?_
  refine OpsE.ev (Ev.assign rfl) rfl ?_
  refine OpsE.nil ?_
  repeat (first | refine .seq ?_ | refine .skip ?_ | refine .block ?_ | refine .inBlock ?_ | refine .yes rfl ?_ | refine .no rfl ?_ | refine .exit rfl ?_)
  refine RunsE.region ?_
  refine OpsE.ev (Ev.move rfl) rfl ?_
  refine OpsE.ev (Ev.ptrNilEq (el := 84) rfl rfl (by kernel_rfl)) rfl ?_
  refine OpsE.nil ?_
  repeat (first | refine .seq ?_ | refine .skip ?_ | refine .block ?_ | refine .inBlock ?_ | refine .yes rfl ?_ | refine .no rfl ?_ | refine .exit rfl ?_)
  refine RunsE.region ?_
  refine OpsE.ev (Ev.assign rfl) rfl ?_
  refine OpsE.nil ?_
  repeat (first | refine .seq ?_ | refine .skip ?_ | refine .block ?_ | refine .inBlock ?_ | refine .yes rfl ?_ | refine .no rfl ?_ | refine .exit rfl ?_)
  exact RunsE.ret1 Tryz.func21 rfl rfl ⟨rfl, H⟩

theorem keys_spec [Strm] (s p fr count m dead : Nat) (o : Obj) (l : List Lf) (hl : l.length ≤ 1000000) (hsr : SrtL l) (w : World) (X : List (Nat × Obj)) (hs : (s, shO p fr count m dead) ∈ X) (hm : (m, o) ∈ X) (ho : Mp o (kvL l)) (H : SL w X) :
    Does Tryz.prog 21 #[.pointer (some ⟨s, 0, none⟩)] w fun r w' => ∃ B, Slc gT 1 9 r (l.map Lf.key) B ∧ SL w' (B ++ X) := by
  have hks : (l.map Lf.key).Pairwise fun a b => a < b := by rw [List.pairwise_map]; exact hsr
  refine Does.intro (args := [_]) (e := [(0, _)]) Tryz.func21 rfl Tryz.ntmps21 rfl rfl ?_
  repeat (first | refine .seq ?_ | refine .skip ?_ | refine .block ?_ | refine .inBlock ?_ | refine .yes rfl ?_ | refine .no rfl ?_ | refine .exit rfl ?_)
  repeat (first | refine .seq ?_ | refine .skip ?_ | refine .block ?_ | refine .inBlock ?_ | refine .yes rfl ?_ | refine .no rfl ?_ | refine .exit rfl ?_)
  refine RunsE.region ?_
  refine OpsE.ev (Ev.assign rfl) rfl ?_
  refine OpsE.nil ?_
  repeat (first | refine .seq ?_ | refine .skip ?_ | refine .block ?_ | refine .inBlock ?_ | refine .yes rfl ?_ | refine .no rfl ?_ | refine .exit rfl ?_)
  refine RunsE.region ?_
  refine OpsE.ev (Ev.move rfl) rfl ?_
  refine OpsE.ev (Ev.ptrNilEq (el := 84) rfl rfl (by kernel_rfl)) rfl ?_
  refine OpsE.nil ?_
  repeat (first | refine .seq ?_ | refine .skip ?_ | refine .block ?_ | refine .inBlock ?_ | refine .yes rfl ?_ | refine .no rfl ?_ | refine .exit rfl ?_)
  refine RunsE.region ?_
  refine OpsE.ev (Ev.move rfl) rfl ?_
  refine OpsE.ev (Ev.nilCheck rfl) rfl ?_
  refine OpsE.ev (Ev.fieldAddr (o := 3) rfl (by kernel_rfl)) rfl ?_
  refine OpsE.ev (Ev.load H rfl (by kernel_rfl) (Rd.mk hs rfl)) rfl ?_
  refine OpsE.ex (Ex.call rfl Tryz.call59 (keysLf_spec m w _ H)) rfl ?_; (try clear H); rintro _ w ⟨c, rfl, H⟩
  refine OpsE.ex (Ex.call rfl Tryz.call48 (sorted_spec _ c ((kvL l).map (·.1)) (by rw [kvL_keys, List.length_map]; exact hl) _ w Tryz.call90 (fun X' hX => keysitLf_spec c m o (kvL l) X' ((Rd.mk m0 rfl).sub hX) (hX _ (.tail _ hm)) ho) H)) rfl ?_; (try clear H); rintro v w ⟨ks, B, hp, hsl, H⟩
  refine OpsE.ev (Ev.assign rfl) rfl ?_
  refine OpsE.nil ?_
  repeat (first | refine .seq ?_ | refine .skip ?_ | refine .block ?_ | refine .inBlock ?_ | refine .yes rfl ?_ | refine .no rfl ?_ | refine .exit rfl ?_)
  rw [kvL_keys] at hp
  rw [srtS_uniq hks hp] at hsl
  exact RunsE.ret1 Tryz.func21 rfl rfl ⟨B, hsl, H.dropMid⟩

end Go.Proofs.YtflfaiakenahlaaGreatDoor
end

section
/-
  The shelf, walked: what is free, the root page.
-/
namespace Go.Proofs.YtflfaiakenahlaaGreatDoor.V

/-- The cells of the places in use. -/
def usedCells (l : List Lf) (count : Nat) : List Value := (List.range count).map fun p => Value.int .i64 (if l.any (fun y => decide (y.place = p)) then 1 else 0)

theorem usedCells_len (l : List Lf) (count : Nat) : (usedCells l count).length = count := by simp [usedCells]
theorem usedCells_nil (count : Nat) : usedCells [] count = List.replicate count (Value.int .i64 0) := by
  apply List.ext_getElem?
  intro i
  by_cases hi : i < count <;> simp [usedCells, hi]

theorem usedCells_set {l : List Lf} {y : Lf} {count : Nat} : (usedCells l count).toArray.setIfInBounds y.place (Value.int .i64 1) = (usedCells (l ++ [y]) count).toArray := by
  apply Array.ext_getElem?
  intro i
  rw [Array.getElem?_setIfInBounds]
  simp only [usedCells, List.getElem?_toArray, List.getElem?_map, List.any_append, List.any_cons, List.any_nil, Bool.or_false, List.size_toArray, List.length_map, List.length_range]
  by_cases hi : i < count
  · rw [List.getElem?_range hi]
    by_cases hp : y.place = i
    · simp [hp, hi]
    · simp [hp]
  · by_cases hp : y.place = i
    · simp [hp, hi]
    · simp [hp, hi]

theorem usedCells_congr {l l' : List Lf} {count : Nat} (h : ∀ y, y ∈ l ↔ y ∈ l') : usedCells l count = usedCells l' count := by
  have : ∀ p, (l.any fun y => decide (y.place = p)) = (l'.any fun y => decide (y.place = p)) := fun p => by
    rw [Bool.eq_iff_iff, List.any_eq_true, List.any_eq_true]
    exact ⟨fun ⟨y, h1, h2⟩ => ⟨y, (h y).1 h1, h2⟩, fun ⟨y, h1, h2⟩ => ⟨y, (h y).2 h1, h2⟩⟩
  unfold usedCells
  simp only [this]

/-- The free places below p. -/
def freeTo (l : List Lf) (p : Nat) : List Int := ((List.range' 1 (p - 1)).filter fun q => !(l.any fun y => decide (y.place = q))).map fun q : Nat => (q : Int)
theorem freeTo_all (l : List Lf) (count : Nat) : freeTo l count = (freeM l count).map fun q : Nat => (q : Int) := rfl
theorem freeTo_succ (l : List Lf) {p : Nat} (hp : 1 ≤ p) : freeTo l (p + 1) = freeTo l p ++ (if l.any (fun y => decide (y.place = p)) then [] else [(p : Int)]) := by
  obtain ⟨q, rfl⟩ : ∃ q, p = q + 1 := ⟨p - 1, by omega⟩
  unfold freeTo
  rw [show q + 1 + 1 - 1 = q + 1 by omega, show q + 1 - 1 = q by omega, List.range'_concat, List.filter_append, List.map_append]
  congr 1
  rw [List.filter_cons]
  simp only [Nat.one_mul]
  rw [show 1 + q = q + 1 by omega]
  cases l.any (fun y => decide (y.place = q + 1)) <;> simp
theorem freeTo_len (l : List Lf) (p : Nat) : (freeTo l p).length ≤ p := by
  unfold freeTo
  rw [List.length_map]
  refine Nat.le_trans (List.length_filter_le _ _) ?_
  rw [List.length_range']
  omega

/-- A leaf out of what is to come. -/
theorem kv_step {l kl : List Lf} {rest rest' : List KV} {a : KV} (hp : (kvL kl ++ rest).Perm (kvL l)) (hr : rest.Perm (a :: rest')) : ∃ y ∈ l, a = (y.key, leafV y) ∧ (kvL (kl ++ [y]) ++ rest').Perm (kvL l) ∧ kl.length < l.length ∧ rest'.length < rest.length := by
  have hm : a ∈ kvL l := hp.subset (List.mem_append_right _ (hr.symm.subset (.head _)))
  obtain ⟨y, hy, rfl⟩ := List.mem_map.1 hm
  have h1 := hp.length_eq
  have h2 := hr.length_eq
  simp only [kvL, List.length_append, List.length_map, List.length_cons] at h1 h2
  refine ⟨y, hy, rfl, ?_, by omega, by omega⟩
  have : kvL (kl ++ [y]) = kvL kl ++ [(y.key, leafV y)] := by simp [kvL]
  rw [this, List.append_assoc, List.singleton_append]
  exact ((List.Perm.refl _).append hr.symm).trans hp

end Go.Proofs.YtflfaiakenahlaaGreatDoor.V
namespace Go.Proofs.YtflfaiakenahlaaGreatDoor
open Go.Proofs.YtflfaiakenahlaaGreatDoor.V

set_option maxHeartbeats 1000000 in
theorem free_spec [Strm] (s p fr count m dead : Nat) (o : Obj) (l : List Lf) (hc : count ≤ 100000) (hpl : ∀ y ∈ l, y.place < count) (w : World) (X : List (Nat × Obj)) (hs : (s, shO p fr count m dead) ∈ X) (hm : (m, o) ∈ X) (ho : Mp o (kvL l)) (H : SL w X) :
    Does Tryz.prog 54 #[.pointer (some ⟨s, 0, none⟩)] w fun r w' => ∃ B, Slc gI 1 3 r ((freeM l count).map fun q : Nat => (q : Int)) B ∧ SL w' (B ++ X) := by
  refine Does.intro (args := [_]) (e := [(0, _)]) Tryz.func54 rfl Tryz.ntmps54 rfl rfl ?_
  repeat (first | refine .seq ?_ | refine .skip ?_ | refine .block ?_ | refine .inBlock ?_ | refine .yes rfl ?_ | refine .no rfl ?_ | refine .exit rfl ?_)
  repeat (first | refine .seq ?_ | refine .skip ?_ | refine .block ?_ | refine .inBlock ?_ | refine .yes rfl ?_ | refine .no rfl ?_ | refine .exit rfl ?_)
  refine RunsE.region ?_
  refine OpsE.ev (Ev.assign rfl) rfl ?_
  refine OpsE.nil ?_
  repeat (first | refine .seq ?_ | refine .skip ?_ | refine .block ?_ | refine .inBlock ?_ | refine .yes rfl ?_ | refine .no rfl ?_ | refine .exit rfl ?_)
  refine RunsE.region ?_
  refine OpsE.ev (Ev.move rfl) rfl ?_
  refine OpsE.ev (Ev.nilCheck rfl) rfl ?_
  refine OpsE.ev (Ev.fieldAddr (o := 1) rfl (by kernel_rfl)) rfl ?_
  refine OpsE.ev (Ev.fieldAddr (o := 1) rfl (by kernel_rfl)) rfl ?_
  refine OpsE.ev (Ev.load H rfl (by kernel_rfl) (Rd.mk hs rfl)) rfl ?_
  refine OpsE.ex (Ex.makeSl (ln := count) (cp := count) (T := 3) (zv := .int .i64 0) (by_ := 8) H rfl rfl (by kernel_rfl) (by kernel_rfl) (by kernel_rfl) rfl (by omega) (by omega) (by omega)) rfl ?_; (try clear H); rintro _ w ⟨bu, rfl, H⟩
  refine OpsE.ev (Ev.assign rfl) rfl ?_
  refine OpsE.nil ?_
  rw [← usedCells_nil] at H
  repeat (first | refine .seq ?_ | refine .skip ?_ | refine .block ?_ | refine .inBlock ?_ | refine .yes rfl ?_ | refine .no rfl ?_ | refine .exit rfl ?_)
  refine RunsE.region ?_
  refine OpsE.ev (Ev.move rfl) rfl ?_
  refine OpsE.ev (Ev.nilCheck rfl) rfl ?_
  refine OpsE.ev (Ev.fieldAddr (o := 3) rfl (by kernel_rfl)) rfl ?_
  refine OpsE.ev (Ev.load H rfl (by kernel_rfl) (Rd.mk (.tail _ hs) rfl)) rfl ?_
  refine OpsE.ex (Ex.rangeS H mapLf rfl (.tail _ hm) ho) rfl ?_; (try clear H); rintro _ w ⟨it, oi, rfl, hi, H⟩
  refine OpsE.nil ?_
  repeat refine RunsE.seq ?_
  refine RunsE.join (fun _ : Unit => [(0, .pointer (some ⟨s, 0, none⟩)), (3, .slice (some ⟨bu, 0, none⟩) count count)])
    (fun _ w => SL w ((bu, .cells (usedCells l count).toArray 3 (0, 0)) :: X)) (fun next => ?_) ?_
  · refine RunsE.block ?_
    refine RunsE.loop (fun _ : List Lf × List KV × Obj => [(0, .pointer (some ⟨s, 0, none⟩)), (3, .slice (some ⟨bu, 0, none⟩) count count), (18, .pointer (some ⟨it, 0, none⟩))])
      (fun q w => ItM o q.2.2 m (kvL q.1) q.2.1 ∧ (kvL q.1 ++ q.2.1).Perm (kvL l) ∧ SL w ((it, q.2.2) :: (bu, .cells (usedCells q.1 count).toArray 3 (0, 0)) :: X)) (fun q => q.2.1.length) ([], kvL l, oi) ⟨rfl, rfl, rfl, trivial⟩ ⟨hi, .refl _, H⟩ ?_
    clear H hi
    rintro ⟨kl, rest, oi⟩ w ⟨hi, hp, H⟩ nextL
    simp only at hi hp H
    repeat (first | refine .seq ?_ | refine .skip ?_ | refine .block ?_ | refine .inBlock ?_ | refine .yes rfl ?_ | refine .no rfl ?_ | refine .exit rfl ?_)
    refine RunsE.region ?_
    refine OpsE.ex (Ex.nextSO (M := fun oi => (it, oi) :: (bu, .cells (usedCells kl count).toArray 3 (0, 0)) :: X) H rfl (fun o' => .head) (.tail _ (.tail _ hm)) hi) rfl ?_; (try clear H); rintro _ w ⟨oo, oi', rfl, H, hn, hsm⟩
    refine OpsE.ev (Ev.extract rfl (nextV_0 oo)) rfl ?_
    refine OpsE.nil ?_
    cases oo with
    | none =>
      obtain ⟨rfl, rfl⟩ := hn rfl
      rw [List.append_nil] at hp
      repeat refine RunsE.seq ?_
      refine RunsE.no rfl ?_
      refine RunsE.exit rfl ?_
      rw [usedCells_congr (kv_mem hp)] at H
      exact next () _ _ H.drop ⟨rfl, rfl, trivial⟩
    | some a =>
      clear next
      obtain ⟨rest', hrp, hic⟩ := hsm a rfl
      obtain ⟨y, hy, rfl, hp', hlt1, hlt2⟩ := kv_step hp hrp
      have hyp := hpl y hy
      repeat refine RunsE.seq ?_
      refine RunsE.yes rfl ?_
      repeat (first | refine .seq ?_ | refine .skip ?_ | refine .block ?_ | refine .inBlock ?_ | refine .yes rfl ?_ | refine .no rfl ?_ | refine .exit rfl ?_)
      refine RunsE.region ?_
      refine OpsE.ev (Ev.entryS H rfl (.head _) (.tail _ (.tail _ hm)) hic) rfl ?_
      refine OpsE.ev (Ev.extract rfl rfl) rfl ?_
      refine OpsE.ex (Ex.alloc (zv := .agg #[.int .i64 0, .string .empty]) H (by kernel_rfl)) rfl ?_; (try clear H); rintro _ w ⟨b5, rfl, H⟩; simp only [Value.cells] at H
      refine OpsE.exn (Ex.storeBlk (n := 2) H rfl rfl (by kernel_rfl) (by first | rfl | simp) (by simp [Value.oneCell']) u0 (by first | rfl | simp) (Thaw.zero _ _)) ?_; (try clear H); intro _ w H
      refine OpsE.nil ?_
      repeat (first | refine .seq ?_ | refine .skip ?_ | refine .block ?_ | refine .inBlock ?_ | refine .yes rfl ?_ | refine .no rfl ?_ | refine .exit rfl ?_)
      refine RunsE.region ?_
      refine OpsE.ev (Ev.move rfl) rfl ?_
      refine OpsE.ev (Ev.fieldAddr (o := 0) rfl (by kernel_rfl)) rfl ?_
      refine OpsE.ev (Ev.load H rfl (by kernel_rfl) (by first | exact Rd.mk m0 rfl | exact Rd.mk m1 rfl | exact Rd.mk m2 rfl | exact Rd.mk m3 rfl | assumption)) rfl ?_
      refine OpsE.ev (Ev.iaSl (n := 3) (sz := 1) (m := y.place) (o := 0 + y.place) rfl rfl rfl (by kernel_rfl) hyp (by rw [Nat.mul_one])) rfl ?_
      refine OpsE.exn (Ex.store1 (cs' := (usedCells (kl ++ [y]) count).toArray) H rfl rfl (by kernel_rfl) rfl u2 (by rw [List.size_toArray, usedCells_len]; omega) (Thaw.zero _ _) (by rw [Nat.zero_add]; exact usedCells_set)) ?_; (try clear H); intro _ w H
      refine OpsE.nil ?_
      refine RunsE.inBlock ?_
      refine nextL (kl ++ [y], rest', oi') _ _ hlt2 ⟨?_, hp', H.drop⟩ ⟨rfl, rfl, rfl, trivial⟩
      have := hic.toM
      simpa [kvL] using this
  clear H hi
  rintro _ w H
  repeat (first | refine .seq ?_ | refine .skip ?_ | refine .block ?_ | refine .inBlock ?_ | refine .yes rfl ?_ | refine .no rfl ?_ | refine .exit rfl ?_)
  refine RunsE.region ?_
  refine OpsE.ev (Ev.assign rfl) rfl ?_
  refine OpsE.nil ?_
  repeat (first | refine .seq ?_ | refine .skip ?_ | refine .block ?_ | refine .inBlock ?_ | refine .yes rfl ?_ | refine .no rfl ?_ | refine .exit rfl ?_)
  refine RunsE.region ?_
  refine OpsE.ev (Ev.assign rfl) rfl ?_
  refine OpsE.nil ?_
  repeat refine RunsE.seq ?_
  refine RunsE.join (fun v : Value => [(6, v)]) (fun v w => ∃ B, Slc gI 1 3 v ((freeM l count).map fun q : Nat => (q : Int)) B ∧ SL w (B ++ X)) (fun next => ?_) ?_
  · refine RunsE.block ?_
    refine RunsE.loop (fun q : Nat × Value => [(0, .pointer (some ⟨s, 0, none⟩)), (3, .slice (some ⟨bu, 0, none⟩) count count), (6, q.2), (7, .int .i64 (q.1 : Int))])
      (fun q w => 1 ≤ q.1 ∧ (q.1 ≤ count ∨ q.1 = 1) ∧ ∃ B, Slc gI 1 3 q.2 (freeTo l q.1) B ∧ SL w (B ++ (bu, .cells (usedCells l count).toArray 3 (0, 0)) :: X)) (fun q => count - q.1) (1, .slice none 0 0) ⟨rfl, rfl, rfl, rfl, trivial⟩ ⟨Nat.le_refl _, .inr rfl, [], .nil, H⟩ ?_
    clear H
    rintro ⟨pl, v⟩ w ⟨hp1, hp2, B, hsl, H⟩ nextL
    simp only at hp1 hp2 hsl
    by_cases h1 : pl < count
    · clear next
      have hcell : (usedCells l count)[pl]? = some (Value.int .i64 (if l.any (fun y => decide (y.place = pl)) then 1 else 0)) := by
        unfold usedCells
        rw [List.getElem?_map, List.getElem?_range h1]
        rfl
      have hfl := freeTo_len l pl
      have hsucc := freeTo_succ l hp1
      repeat (first | refine .seq ?_ | refine .skip ?_ | refine .block ?_ | refine .inBlock ?_ | refine .yes rfl ?_ | refine .no rfl ?_ | refine .exit rfl ?_)
      refine RunsE.region ?_
      refine OpsE.ev (Ev.move rfl) rfl ?_
      refine OpsE.ev (Ev.move rfl) rfl ?_
      refine OpsE.ev (Ev.nilCheck rfl) rfl ?_
      refine OpsE.ev (Ev.fieldAddr (o := 1) rfl (by kernel_rfl)) rfl ?_
      refine OpsE.ev (Ev.fieldAddr (o := 1) rfl (by kernel_rfl)) rfl ?_
      refine OpsE.ev (Ev.load H rfl (by kernel_rfl) (Rd.right (Rd.tail (Rd.mk hs rfl)))) rfl ?_
      refine OpsE.ev (Ev.lss (r := true) rfl rfl (decide_eq_true (by simp only; omega))) rfl ?_
      refine OpsE.nil ?_
      repeat (first | refine .seq ?_ | refine .skip ?_ | refine .block ?_ | refine .inBlock ?_ | refine .yes rfl ?_ | refine .no rfl ?_ | refine .exit rfl ?_)
      cases hu : l.any (fun y => decide (y.place = pl)) with
      | true =>
        rw [hu] at hsucc hcell
        simp only [if_true] at hsucc hcell
        rw [List.append_nil] at hsucc
        repeat (first | refine .seq ?_ | refine .skip ?_ | refine .block ?_ | refine .inBlock ?_ | refine .yes rfl ?_ | refine .no rfl ?_ | refine .exit rfl ?_)
        refine RunsE.region ?_
        refine OpsE.ev (Ev.move rfl) rfl ?_
        refine OpsE.ev (Ev.move rfl) rfl ?_
        refine OpsE.ev (Ev.iaSl (n := 3) (sz := 1) (m := pl) (o := 0 + pl) rfl rfl rfl (by kernel_rfl) h1 (by rw [Nat.mul_one])) rfl ?_
        refine OpsE.ev (Ev.load (v := .int .i64 1) H rfl (by kernel_rfl) (Rd.right (Rd.mk m0 (by rw [Nat.zero_add]; simpa using hcell)))) rfl ?_
        refine OpsE.ev (Ev.eql (r := false) rfl rfl rfl) rfl ?_
        refine OpsE.nil ?_
        repeat (first | refine .seq ?_ | refine .skip ?_ | refine .block ?_ | refine .inBlock ?_ | refine .yes rfl ?_ | refine .no rfl ?_ | refine .exit rfl ?_)
        repeat (first | refine .seq ?_ | refine .skip ?_ | refine .block ?_ | refine .inBlock ?_ | refine .yes rfl ?_ | refine .no rfl ?_ | refine .exit rfl ?_)
        refine RunsE.region ?_
        refine OpsE.ev (Ev.move rfl) rfl ?_
        refine OpsE.ev (Ev.add rfl rfl) rfl ?_
        refine OpsE.ev (Ev.assign rfl) rfl ?_
        refine OpsE.nil ?_
        exact nextL (pl + 1, v) _ _ (by simp only; omega) ⟨by simp only; omega, by simp only; omega, B, by simp only; rw [hsucc]; exact hsl, H⟩ ⟨rfl, rfl, rfl, rfl, trivial⟩
      | false =>
        rw [hu] at hsucc hcell
        simp only [Bool.false_eq_true, if_false] at hsucc hcell
        repeat (first | refine .seq ?_ | refine .skip ?_ | refine .block ?_ | refine .inBlock ?_ | refine .yes rfl ?_ | refine .no rfl ?_ | refine .exit rfl ?_)
        refine RunsE.region ?_
        refine OpsE.ev (Ev.move rfl) rfl ?_
        refine OpsE.ev (Ev.move rfl) rfl ?_
        refine OpsE.ev (Ev.iaSl (n := 3) (sz := 1) (m := pl) (o := 0 + pl) rfl rfl rfl (by kernel_rfl) h1 (by rw [Nat.mul_one])) rfl ?_
        refine OpsE.ev (Ev.load (v := .int .i64 0) H rfl (by kernel_rfl) (Rd.right (Rd.mk m0 (by rw [Nat.zero_add]; simpa using hcell)))) rfl ?_
        refine OpsE.ev (Ev.eql (r := true) rfl rfl rfl) rfl ?_
        refine OpsE.nil ?_
        repeat (first | refine .seq ?_ | refine .skip ?_ | refine .block ?_ | refine .inBlock ?_ | refine .yes rfl ?_ | refine .no rfl ?_ | refine .exit rfl ?_)
        repeat (first | refine .seq ?_ | refine .skip ?_ | refine .block ?_ | refine .inBlock ?_ | refine .yes rfl ?_ | refine .no rfl ?_ | refine .exit rfl ?_)
        refine RunsE.region ?_
        refine OpsE.ev (Ev.move rfl) rfl ?_
        refine OpsE.ev (Ev.move rfl) rfl ?_
        refine OpsE.ex (Ex.buildSl (T := 3) (zv := .int .i64 0) H rfl (by kernel_rfl) (by kernel_rfl) (by simp [Value.oneCell']) rfl (by omega) (by omega)) rfl ?_; (try clear H); rintro _ w ⟨b43, rfl, H⟩
        refine OpsE.ex (Ex.append (T := 3) (g := gI) (by_ := 8) (zv := .int .i64 0) (ys := [(pl : Int)]) H.drop rfl rfl hsl (Src.row0 H m0 rfl) (fun _ => rfl) (by simp [Value.oneCell']) (by kernel_rfl) (by kernel_rfl) (by kernel_rfl) (by kernel_rfl) rfl (by simp only [List.length_singleton]; omega) (by simp only [List.length_singleton]; omega)) rfl ?_; (try clear H); rintro v' w ⟨B, hsl, H⟩
        refine OpsE.ev (Ev.assign rfl) rfl ?_
        refine OpsE.nil ?_
        repeat (first | refine .seq ?_ | refine .skip ?_ | refine .block ?_ | refine .inBlock ?_ | refine .yes rfl ?_ | refine .no rfl ?_ | refine .exit rfl ?_)
        refine RunsE.region ?_
        refine OpsE.ev (Ev.move rfl) rfl ?_
        refine OpsE.ev (Ev.add rfl rfl) rfl ?_
        refine OpsE.ev (Ev.assign rfl) rfl ?_
        refine OpsE.nil ?_
        exact nextL (pl + 1, v') _ _ (by simp only; omega) ⟨by simp only; omega, by simp only; omega, B, by simp only; rw [hsucc]; exact hsl, H⟩ ⟨rfl, rfl, rfl, rfl, trivial⟩
    · have hend : freeTo l pl = (freeM l count).map fun q : Nat => (q : Int) := by
        rcases hp2 with h | h
        · rw [show pl = count by omega, freeTo_all]
        · subst h
          rw [← freeTo_all]
          unfold freeTo
          rw [show count - 1 = 1 - 1 by omega]
      rw [hend] at hsl
      repeat (first | refine .seq ?_ | refine .skip ?_ | refine .block ?_ | refine .inBlock ?_ | refine .yes rfl ?_ | refine .no rfl ?_ | refine .exit rfl ?_)
      refine RunsE.region ?_
      refine OpsE.ev (Ev.move rfl) rfl ?_
      refine OpsE.ev (Ev.move rfl) rfl ?_
      refine OpsE.ev (Ev.nilCheck rfl) rfl ?_
      refine OpsE.ev (Ev.fieldAddr (o := 1) rfl (by kernel_rfl)) rfl ?_
      refine OpsE.ev (Ev.fieldAddr (o := 1) rfl (by kernel_rfl)) rfl ?_
      refine OpsE.ev (Ev.load H rfl (by kernel_rfl) (Rd.right (Rd.tail (Rd.mk hs rfl)))) rfl ?_
      refine OpsE.ev (Ev.lss (r := false) rfl rfl (decide_eq_false (by simp only; omega))) rfl ?_
      refine OpsE.nil ?_
      repeat refine RunsE.seq ?_
      refine RunsE.no rfl ?_
      refine RunsE.exit rfl ?_
      exact next v _ _ ⟨B, hsl, H.dropMid⟩ ⟨rfl, trivial⟩
  · clear H
    rintro v w ⟨B, hsl, H⟩
    repeat (first | refine .seq ?_ | refine .skip ?_ | refine .block ?_ | refine .inBlock ?_ | refine .yes rfl ?_ | refine .no rfl ?_ | refine .exit rfl ?_)
    refine RunsE.region ?_
    refine OpsE.ev (Ev.move rfl) rfl ?_
    refine OpsE.ev (Ev.assign rfl) rfl ?_
    refine OpsE.nil ?_
    repeat (first | refine .seq ?_ | refine .skip ?_ | refine .block ?_ | refine .inBlock ?_ | refine .yes rfl ?_ | refine .no rfl ?_ | refine .exit rfl ?_)
    exact RunsE.ret1 Tryz.func54 rfl rfl ⟨B, hsl, H⟩

set_option maxHeartbeats 1000000 in
theorem root_spec [Strm] (m count : Nat) (o : Obj) (l : List Lf) (hok : OkL l count) (hc : count ≤ 256) (kvs : List KV) (hkv : kvs.Perm (kvL l)) (w : World) (X : List (Nat × Obj)) (hm : (m, o) ∈ X) (ho : Mp o kvs) (H : SL w X) :
    Does Tryz.prog 89 #[.map (some m)] w fun r w' => ∃ B, Slc gB 1 5 r (rootM l count) B ∧ SL w' (B ++ X) := by
  replace ho := ho.perm hkv
  have hll := (free_len hok).2
  have hul := (used_perm hok).length_eq
  rw [List.length_map] at hul
  refine Does.intro (args := [_]) (e := [(0, _)]) Tryz.func89 rfl Tryz.ntmps89 rfl rfl ?_
  repeat (first | refine .seq ?_ | refine .skip ?_ | refine .block ?_ | refine .inBlock ?_ | refine .yes rfl ?_ | refine .no rfl ?_ | refine .exit rfl ?_)
  repeat (first | refine .seq ?_ | refine .skip ?_ | refine .block ?_ | refine .inBlock ?_ | refine .yes rfl ?_ | refine .no rfl ?_ | refine .exit rfl ?_)
  refine RunsE.region ?_
  refine OpsE.ev (Ev.assign rfl) rfl ?_
  refine OpsE.nil ?_
  repeat (first | refine .seq ?_ | refine .skip ?_ | refine .block ?_ | refine .inBlock ?_ | refine .yes rfl ?_ | refine .no rfl ?_ | refine .exit rfl ?_)
  refine RunsE.region ?_
  refine OpsE.ev (Ev.assign rfl) rfl ?_
  refine OpsE.nil ?_
  repeat (first | refine .seq ?_ | refine .skip ?_ | refine .block ?_ | refine .inBlock ?_ | refine .yes rfl ?_ | refine .no rfl ?_ | refine .exit rfl ?_)
  refine RunsE.region ?_
  refine OpsE.ev (Ev.move rfl) rfl ?_
  refine OpsE.ex (Ex.rangeS H mapLf rfl hm ho) rfl ?_; (try clear H); rintro _ w ⟨it, oi, rfl, hi, H⟩
  refine OpsE.nil ?_
  repeat refine RunsE.seq ?_
  refine RunsE.join (fun v : Value => [(3, v)])
    (fun v w => ∃ zs B, zs.Perm (l.map fun y => (y.place : Int)) ∧ Slc gI 1 3 v zs B ∧ SL w (B ++ X)) (fun next => ?_) ?_
  · refine RunsE.block ?_
    refine RunsE.loop (fun q : List Lf × List KV × Obj × Value => [(3, q.2.2.2), (10, .pointer (some ⟨it, 0, none⟩))])
      (fun q w => ItM o q.2.2.1 m (kvL q.1) q.2.1 ∧ (kvL q.1 ++ q.2.1).Perm (kvL l) ∧ ∃ B, Slc gI 1 3 q.2.2.2 (q.1.map fun y => (y.place : Int)) B ∧ SL w (B ++ (it, q.2.2.1) :: X)) (fun q => q.2.1.length) ([], kvL l, oi, .slice none 0 0) ⟨rfl, rfl, trivial⟩ ⟨hi, .refl _, [], .nil, H⟩ ?_
    clear H hi
    rintro ⟨kl, rest, oi, v⟩ w ⟨hi, hp, B, hsl, H⟩ nextL
    simp only at hi hp hsl H
    repeat (first | refine .seq ?_ | refine .skip ?_ | refine .block ?_ | refine .inBlock ?_ | refine .yes rfl ?_ | refine .no rfl ?_ | refine .exit rfl ?_)
    refine RunsE.region ?_
    refine OpsE.ex (Ex.nextSO (M := fun oi => B ++ (it, oi) :: X) H rfl (fun o' => Upd.skip .head B) (List.mem_append_right _ (.tail _ hm)) hi) rfl ?_; (try clear H); rintro _ w ⟨oo, oi', rfl, H, hn, hsm⟩
    refine OpsE.ev (Ev.extract rfl (nextV_0 oo)) rfl ?_
    refine OpsE.nil ?_
    cases oo with
    | none =>
      obtain ⟨rfl, rfl⟩ := hn rfl
      rw [List.append_nil] at hp
      repeat refine RunsE.seq ?_
      refine RunsE.no rfl ?_
      refine RunsE.exit rfl ?_
      refine next v _ _ ⟨_, B, ?_, hsl, H.dropMid⟩ ⟨rfl, trivial⟩
      refine ((List.perm_ext_iff_of_nodup ?_ ?_).2 (kv_mem hp)).map _
      · have h1 : ((kvL kl).map (·.1)).Nodup := ((hp.map _).nodup_iff).2 (by rw [kvL_keys]; exact hok.srt.nodup)
        rw [kvL_keys] at h1
        exact (List.pairwise_map.1 (List.nodup_iff_pairwise_ne.1 h1)).imp fun h he => h (by rw [he])
      · exact (List.pairwise_map.1 (List.nodup_iff_pairwise_ne.1 hok.srt.nodup)).imp fun h he => h (by rw [he])
    | some a =>
      clear next
      obtain ⟨rest', hrp, hic⟩ := hsm a rfl
      obtain ⟨y, hy, rfl, hp', hlt1, hlt2⟩ := kv_step hp hrp
      repeat refine RunsE.seq ?_
      refine RunsE.yes rfl ?_
      repeat (first | refine .seq ?_ | refine .skip ?_ | refine .block ?_ | refine .inBlock ?_ | refine .yes rfl ?_ | refine .no rfl ?_ | refine .exit rfl ?_)
      refine RunsE.region ?_
      refine OpsE.ev (Ev.entryS H rfl (List.mem_append_right _ (.head _)) (List.mem_append_right _ (.tail _ hm)) hic) rfl ?_
      refine OpsE.ev (Ev.extract rfl rfl) rfl ?_
      refine OpsE.ex (Ex.alloc (zv := .agg #[.int .i64 0, .string .empty]) H (by kernel_rfl)) rfl ?_; (try clear H); rintro _ w ⟨b5, rfl, H⟩; simp only [Value.cells] at H
      refine OpsE.exn (Ex.storeBlk (n := 2) H rfl rfl (by kernel_rfl) (by first | rfl | simp) (by simp [Value.oneCell']) u0 (by first | rfl | simp) (Thaw.zero _ _)) ?_; (try clear H); intro _ w H
      refine OpsE.nil ?_
      repeat (first | refine .seq ?_ | refine .skip ?_ | refine .block ?_ | refine .inBlock ?_ | refine .yes rfl ?_ | refine .no rfl ?_ | refine .exit rfl ?_)
      refine RunsE.region ?_
      refine OpsE.ev (Ev.move rfl) rfl ?_
      refine OpsE.ev (Ev.fieldAddr (o := 0) rfl (by kernel_rfl)) rfl ?_
      refine OpsE.ev (Ev.load H rfl (by kernel_rfl) (by first | exact Rd.mk m0 rfl | exact Rd.mk m1 rfl | exact Rd.mk m2 rfl | exact Rd.mk m3 rfl | assumption)) rfl ?_
      refine OpsE.ex (Ex.buildSl (T := 3) (zv := .int .i64 0) H rfl (by kernel_rfl) (by kernel_rfl) (by simp [Value.oneCell']) rfl (by omega) (by omega)) rfl ?_; (try clear H); rintro _ w ⟨b18, rfl, H⟩
      refine OpsE.ex (Ex.append (T := 3) (g := gI) (by_ := 8) (zv := .int .i64 0) (ys := [(y.place : Int)]) H.drop.drop rfl rfl hsl (Src.row0 H m0 rfl) (fun _ => rfl) (by simp [Value.oneCell']) (by kernel_rfl) (by kernel_rfl) (by kernel_rfl) (by kernel_rfl) rfl (by simp only [List.length_singleton, List.length_map]; omega) (by simp only [List.length_singleton, List.length_map]; omega)) rfl ?_; (try clear H); rintro v' w ⟨B, hsl, H⟩
      refine OpsE.ev (Ev.assign rfl) rfl ?_
      refine OpsE.nil ?_
      refine RunsE.inBlock ?_
      refine nextL (kl ++ [y], rest', oi', v') _ _ hlt2 ⟨?_, hp', B, by simpa using hsl, H⟩ ⟨rfl, rfl, trivial⟩
      have := hic.toM
      simpa [kvL] using this
  clear H hi
  rintro v w ⟨zs, B, hz, hsl, H⟩
  have hzl : zs.length = l.length := by rw [hz.length_eq, List.length_map]
  obtain ⟨us, hus⟩ : ∃ us, us = usedM l count := ⟨_, rfl⟩
  have husl : us.length = l.length := by rw [hus]; exact hul
  have hub : ∀ i, i < us.length → us.getD i 0 < 256 := fun i hi => by
    have h1 : us.getD i 0 ∈ usedM l count := by rw [← hus]; exact getD_mem hi
    have h2 := (List.mem_filter.1 h1).1
    rw [List.mem_range'_1] at h2
    omega
  repeat (first | refine .seq ?_ | refine .skip ?_ | refine .block ?_ | refine .inBlock ?_ | refine .yes rfl ?_ | refine .no rfl ?_ | refine .exit rfl ?_)
  refine RunsE.region ?_
  refine OpsE.ev (Ev.move rfl) rfl ?_
  refine OpsE.ex (Ex.call rfl Tryz.call103 (sortN_spec v zs B (by omega) w _ hsl H)) rfl ?_; (try clear H); rintro _ w ⟨rfl, B, hsl, H⟩
  refine OpsE.nil ?_
  rw [root_sort hok hz, ← hus] at hsl
  obtain ⟨a, c, rfl, hcc⟩ := hsl.leCap
  repeat (first | refine .seq ?_ | refine .skip ?_ | refine .block ?_ | refine .inBlock ?_ | refine .yes rfl ?_ | refine .no rfl ?_ | refine .exit rfl ?_)
  refine RunsE.region ?_
  refine OpsE.ex (Ex.call rfl Tryz.call84 (wnew_spec w _ H)) rfl ?_; (try clear H); rintro _ w ⟨bw, A, rfl, hA, H⟩
  refine OpsE.ev (Ev.move rfl) rfl ?_
  refine OpsE.ev (Ev.lenSl (d := 3) rfl rfl (by kernel_rfl)) rfl ?_
  refine OpsE.ev (Ev.conv (c := (us.length : Int)) (k' := .u64) rfl (by kernel_rfl) (by kernel_rfl) (by rw [List.length_map]; exact qu64 (by omega) (by omega))) rfl ?_
  refine OpsE.ex (Ex.call rfl Tryz.call104 (wuint_spec us.length (by omega) bw [] (by simp) A w _ hA H)) rfl ?_; (try clear H); rintro _ w ⟨A, rfl, hA, H⟩
  refine OpsE.ev (Ev.assign rfl) rfl ?_
  refine OpsE.nil ?_
  rw [List.nil_append] at hA
  repeat (first | refine .seq ?_ | refine .skip ?_ | refine .block ?_ | refine .inBlock ?_ | refine .yes rfl ?_ | refine .no rfl ?_ | refine .exit rfl ?_)
  refine RunsE.region ?_
  refine OpsE.ev (Ev.move rfl) rfl ?_
  refine OpsE.ev (Ev.lenSl (d := 3) rfl rfl (by kernel_rfl)) rfl ?_
  refine OpsE.ev (Ev.move rfl) rfl ?_
  refine OpsE.nil ?_
  repeat refine RunsE.seq ?_
  refine RunsE.join (fun _ : Unit => [(6, .pointer (some ⟨bw, 0, none⟩))]) (fun _ w => ∃ A, WrH bw (rootM l count) A ∧ SL w (A ++ (B ++ X))) (fun next => ?_) ?_
  · refine RunsE.block ?_
    refine RunsE.loop (fun i : Nat => [(6, .pointer (some ⟨bw, 0, none⟩)), (27, .slice a (us.map fun p : Nat => (p : Int)).length c), (28, .int .i64 (us.length : Int)), (29, .int .i64 (i : Int))])
      (fun i w => i ≤ us.length ∧ ∃ A, WrH bw (encU us.length ++ (us.take i).flatMap encU) A ∧ SL w (A ++ (B ++ X))) (fun i => us.length - i) 0 ⟨rfl, rfl, congrArg (fun n : Nat => some (Value.int .i64 (n : Int))) (List.length_map ..), rfl, trivial⟩ ⟨by omega, A, by simpa using hA, H⟩ ?_
    clear H hA
    rintro i w ⟨hi, A, hA, H⟩ nextL
    have hfl := flat_len (us.take i)
    rw [List.length_take] at hfl
    have hel := encU_len us.length
    by_cases h1 : i = us.length
    ·
      repeat (first | refine .seq ?_ | refine .skip ?_ | refine .block ?_ | refine .inBlock ?_ | refine .yes rfl ?_ | refine .no rfl ?_ | refine .exit rfl ?_)
      refine RunsE.region ?_
      refine OpsE.ev (Ev.lss (r := false) rfl rfl (decide_eq_false (by omega))) rfl ?_
      refine OpsE.nil ?_
      repeat refine RunsE.seq ?_
      refine RunsE.no rfl ?_
      refine RunsE.exit rfl ?_
      rw [h1, List.take_length] at hA
      have e1 : encU us.length ++ us.flatMap encU = rootM l count := by rw [husl, hus]; rfl
      rw [e1] at hA
      exact next () _ _ ⟨A, hA, H⟩ ⟨rfl, trivial⟩
    · clear next
      have hil : i < us.length := by omega
      obtain ⟨bs, cs, sp, frz, e1, rfl, h2, h3, h4⟩ := hsl.shape (by rw [List.length_map]; omega)
      cases e1
      have hrd : ∀ {A : List (Nat × Obj)}, Rd (A ++ ([(bs, Obj.cells ((us.map fun p : Nat => (p : Int)).flatMap gI ++ sp).toArray 3 frz)] ++ X)) ⟨bs, 0 + i, none⟩ (.int .i64 ((us.getD i 0 : Nat) : Int)) := fun {A} => by
        refine Rd.right (Rd.left (Rd.mk (.head _) ?_))
        rw [Nat.zero_add, List.getElem?_toArray, List.getElem?_append_left (by rw [flatMap_one]; simpa using hil), flatMap_one, List.getElem?_map, List.getElem?_map, List.getElem?_eq_getElem hil]
        simp [List.getD_eq_getElem?_getD, hil]
      have hu256 := hub i hil
      repeat (first | refine .seq ?_ | refine .skip ?_ | refine .block ?_ | refine .inBlock ?_ | refine .yes rfl ?_ | refine .no rfl ?_ | refine .exit rfl ?_)
      refine RunsE.region ?_
      refine OpsE.ev (Ev.lss (r := true) rfl rfl (decide_eq_true (by omega))) rfl ?_
      refine OpsE.nil ?_
      repeat (first | refine .seq ?_ | refine .skip ?_ | refine .block ?_ | refine .inBlock ?_ | refine .yes rfl ?_ | refine .no rfl ?_ | refine .exit rfl ?_)
      repeat (first | refine .seq ?_ | refine .skip ?_ | refine .block ?_ | refine .inBlock ?_ | refine .yes rfl ?_ | refine .no rfl ?_ | refine .exit rfl ?_)
      refine RunsE.region ?_
      refine OpsE.ev (Ev.iaSl (n := 3) (sz := 1) (m := i) (o := 0 + i) rfl rfl rfl (by kernel_rfl) (by rw [List.length_map]; exact hil) (by rw [Nat.mul_one])) rfl ?_
      refine OpsE.ev (Ev.load H rfl (by kernel_rfl) hrd) rfl ?_
      refine OpsE.ev (Ev.assign rfl) rfl ?_
      refine OpsE.nil ?_
      repeat (first | refine .seq ?_ | refine .skip ?_ | refine .block ?_ | refine .inBlock ?_ | refine .yes rfl ?_ | refine .no rfl ?_ | refine .exit rfl ?_)
      refine RunsE.region ?_
      refine OpsE.ev (Ev.move rfl) rfl ?_
      refine OpsE.ev (Ev.move rfl) rfl ?_
      refine OpsE.ev (Ev.conv (c := ((us.getD i 0 : Nat) : Int)) (k' := .u64) rfl (by kernel_rfl) (by kernel_rfl) (qu64 (by omega) (by omega))) rfl ?_
      refine OpsE.ex (Ex.call rfl Tryz.call104 (wuint_spec (us.getD i 0) hu256 bw _ (by rw [List.length_append]; omega) A w _ hA H)) rfl ?_; (try clear H); rintro _ w ⟨A, rfl, hA, H⟩
      refine OpsE.nil ?_
      repeat (first | refine .seq ?_ | refine .skip ?_ | refine .block ?_ | refine .inBlock ?_ | refine .yes rfl ?_ | refine .no rfl ?_ | refine .exit rfl ?_)
      refine RunsE.region ?_
      refine OpsE.ev (Ev.add rfl rfl) rfl ?_
      refine OpsE.ev (Ev.move rfl) rfl ?_
      refine OpsE.nil ?_
      refine nextL (i + 1) _ _ (by omega) ⟨by omega, A, ?_, H⟩ ⟨rfl, rfl, rfl, rfl, trivial⟩
      rw [take_succD (d := 0) hil, List.flatMap_append, ← List.append_assoc]
      simpa using hA
  · clear H hA
    rintro _ w ⟨A, hA, H⟩
    have hrl := (root_len hok).2
    repeat (first | refine .seq ?_ | refine .skip ?_ | refine .block ?_ | refine .inBlock ?_ | refine .yes rfl ?_ | refine .no rfl ?_ | refine .exit rfl ?_)
    refine RunsE.region ?_
    refine OpsE.ev (Ev.move rfl) rfl ?_
    refine OpsE.ex (Ex.call rfl Tryz.call86 (wdone_spec bw _ (by omega) A w _ hA H)) rfl ?_; (try clear H); rintro vd w ⟨Bd, hd, H⟩
    refine OpsE.ev (Ev.assign rfl) rfl ?_
    refine OpsE.nil ?_
    repeat (first | refine .seq ?_ | refine .skip ?_ | refine .block ?_ | refine .inBlock ?_ | refine .yes rfl ?_ | refine .no rfl ?_ | refine .exit rfl ?_)
    exact RunsE.ret1 Tryz.func89 rfl rfl ⟨Bd, hd, H.dropIn⟩

end Go.Proofs.YtflfaiakenahlaaGreatDoor
end

section
/-
  The shelf, walked: which changes change something.
-/
namespace Go.Proofs.YtflfaiakenahlaaGreatDoor.V

abbrev gC (c : Ch) : List Value := [sV c.key, sV c.val, .bool c.gone]
/-- A change that lies somewhere. -/
def ChAt (L : List (Nat × Obj)) (b off : Nat) (c : Ch) : Prop := ∀ (j : Nat) v, (gC c)[j]? = some v → Rd L ⟨b, off + j, none⟩ v
theorem ChAt.sub {L L' : List (Nat × Obj)} {b off : Nat} {c : Ch} (h : ChAt L b off c) (hs : ∀ p ∈ L, p ∈ L') : ChAt L' b off c := fun j v hj => (h j v hj).sub hs

theorem kvc_inj {y z : Ch} (h : (y.key, chV y) = (z.key, chV z)) : y = z := by
  obtain ⟨yk, yv, yp⟩ := y
  obtain ⟨zk, zv, zp⟩ := z
  simp only [Prod.mk.injEq, Value.agg.injEq] at h
  obtain ⟨rfl, h⟩ := h
  have h1 := Array.toList_inj.2 h
  simp only [List.cons.injEq, true_and] at h1
  have h2 := sV_inj h1.1
  have h3 := h1.2.1
  subst h2
  cases h3
  rfl

theorem kvc_mem {l kl : List Ch} (h : (kvC kl).Perm (kvC l)) (y : Ch) : y ∈ kl ↔ y ∈ l := by
  have h1 : ∀ {a b : List Ch}, (kvC a).Perm (kvC b) → y ∈ a → y ∈ b := fun {a b} h hy => by
    have : (y.key, chV y) ∈ kvC b := h.subset (List.mem_map_of_mem (f := fun y : Ch => (y.key, chV y)) hy)
    obtain ⟨z, hz, he⟩ := List.mem_map.1 this
    rw [← kvc_inj he]; exact hz
  exact ⟨h1 h, h1 h.symm⟩

theorem kvc_perm {l kl : List Ch} (h : (kvC kl).Perm (kvC l)) (hn : (l.map Ch.key).Nodup) : kl.Perm l := by
  have hn1 : (kl.map Ch.key).Nodup := by
    rw [← kvC_keys]
    exact ((h.map _).nodup_iff).2 (by rw [kvC_keys]; exact hn)
  have nd : ∀ {a : List Ch}, (a.map Ch.key).Nodup → a.Nodup := fun {a} h => (List.pairwise_map.1 (List.nodup_iff_pairwise_ne.1 h)).imp fun h he => h (by rw [he])
  exact (List.perm_ext_iff_of_nodup (nd hn1) (nd hn)).2 (kvc_mem h)

theorem kvc_step {l dl : List Ch} {rest rest' : List KV} {a : KV} (hp : (kvC dl ++ rest).Perm (kvC l)) (hr : rest.Perm (a :: rest')) : ∃ y ∈ l, a = (y.key, chV y) ∧ (kvC (dl ++ [y]) ++ rest').Perm (kvC l) ∧ rest'.length < rest.length := by
  have hm : a ∈ kvC l := hp.subset (List.mem_append_right _ (hr.symm.subset (.head _)))
  obtain ⟨y, hy, rfl⟩ := List.mem_map.1 hm
  have h2 := hr.length_eq
  simp only [List.length_cons] at h2
  refine ⟨y, hy, rfl, ?_, by omega⟩
  have : kvC (dl ++ [y]) = kvC dl ++ [(y.key, chV y)] := by simp [kvC]
  rw [this, List.append_assoc, List.singleton_append]
  exact ((List.Perm.refl _).append hr.symm).trans hp

end Go.Proofs.YtflfaiakenahlaaGreatDoor.V
namespace Go.Proofs.YtflfaiakenahlaaGreatDoor
open Go.Proofs.YtflfaiakenahlaaGreatDoor.V

theorem changed1_spec [Strm] (c2 s p fr count m dead : Nat) (o : Obj) (l : List Lf) (ch : Ch) (w : World) (X : List (Nat × Obj)) (hc : Rd X ⟨c2, 0, none⟩ (.pointer (some ⟨s, 0, none⟩))) (hs : (s, shO p fr count m dead) ∈ X) (hm : (m, o) ∈ X) (ho : Mp o (kvL l)) (H : SL w X) :
    Does Tryz.prog 79 #[sV ch.key, chV ch, .pointer (some ⟨c2, 0, none⟩)] w fun r w' => r = .bool (sameM l ch) ∧ SL w' X := by
  refine Does.intro (args := [_, _, _]) (e := [(0, _), (1, _), (2, _)]) Tryz.func79 rfl Tryz.ntmps79 rfl rfl ?_
  repeat (first | refine .seq ?_ | refine .skip ?_ | refine .block ?_ | refine .inBlock ?_ | refine .yes rfl ?_ | refine .no rfl ?_ | refine .exit rfl ?_)
  repeat (first | refine .seq ?_ | refine .skip ?_ | refine .block ?_ | refine .inBlock ?_ | refine .yes rfl ?_ | refine .no rfl ?_ | refine .exit rfl ?_)
  refine RunsE.region ?_
  refine OpsE.ex (Ex.box H rfl) rfl ?_; (try clear H); rintro _ w ⟨b4, rfl, H⟩; simp only [Value.cells] at H
  refine OpsE.ev (Ev.assign rfl) rfl ?_
  refine OpsE.nil ?_
  repeat (first | refine .seq ?_ | refine .skip ?_ | refine .block ?_ | refine .inBlock ?_ | refine .yes rfl ?_ | refine .no rfl ?_ | refine .exit rfl ?_)
  refine RunsE.region ?_
  refine OpsE.ev (Ev.load H rfl (by kernel_rfl) hc.tail) rfl ?_
  refine OpsE.ev (Ev.nilCheck rfl) rfl ?_
  refine OpsE.ev (Ev.fieldAddr (o := 3) rfl (by kernel_rfl)) rfl ?_
  refine OpsE.ev (Ev.load H rfl (by kernel_rfl) (Rd.mk (.tail _ hs) rfl)) rfl ?_
  refine OpsE.ev (Ev.move rfl) rfl ?_
  refine OpsE.ev (Ev.lookLf H rfl rfl (.tail _ hm) ho (.refl _)) rfl ?_
  refine OpsE.ev (Ev.move rfl) rfl ?_
  refine OpsE.ev (Ev.extract rfl rfl) rfl ?_
  refine OpsE.ev (Ev.extract rfl rfl) rfl ?_
  refine OpsE.ex (Ex.alloc (zv := .agg #[.int .i64 0, .string .empty]) H (by kernel_rfl)) rfl ?_; (try clear H); rintro _ w ⟨b6, rfl, H⟩; simp only [Value.cells] at H
  refine OpsE.exn (Ex.storeBlk (n := 2) H rfl rfl (by kernel_rfl) (by first | rfl | simp) (by simp [Value.oneCell']) u0 (by first | rfl | simp) (Thaw.zero _ _)) ?_; (try clear H); intro _ w H
  refine OpsE.ev (Ev.assign rfl) rfl ?_
  refine OpsE.nil ?_
  have hfin : ∀ {A : List (Nat × Obj)} {w : World}, SL w (A ++ X) → SL w X := fun h => h.dropL
  cases hg : ch.gone with
  | true =>
    rw [hg] at H
    cases hf : findL l ch.key with
    | none =>
      rw [hf] at H
      simp only [Option.isSome_none, Option.getD_none]
      repeat (first | refine .seq ?_ | refine .skip ?_ | refine .block ?_ | refine .inBlock ?_ | refine .yes rfl ?_ | refine .no rfl ?_ | refine .exit rfl ?_)
      refine RunsE.region ?_
      refine OpsE.ev (Ev.fieldAddr (o := 2) rfl (by kernel_rfl)) rfl ?_
      refine OpsE.ev (Ev.load H rfl (by kernel_rfl) (by first | exact Rd.mk m0 rfl | exact Rd.mk m1 rfl | exact Rd.mk m2 rfl | exact Rd.mk m3 rfl | assumption)) rfl ?_
      refine OpsE.ev (Ev.move rfl) rfl ?_
      first | (refine OpsE.yes rfl rfl ?_; refine OpsE.ev (Ev.move rfl) rfl ?_) | refine OpsE.no rfl rfl rfl ?_ | refine OpsE.off rfl rfl rfl ?_
      first | (refine OpsE.yes rfl rfl ?_; refine OpsE.ev (Ev.not rfl) rfl ?_) | refine OpsE.no rfl rfl rfl ?_ | refine OpsE.off rfl rfl rfl ?_
      refine OpsE.ev ((by first | exact Ev.pickT rfl rfl | exact Ev.pickF rfl rfl)) rfl ?_
      refine OpsE.ev (Ev.move rfl) rfl ?_
      first | (refine OpsE.yes rfl rfl ?_; refine OpsE.ev (Ev.fieldAddr (o := 2) rfl (by kernel_rfl)) rfl ?_) | refine OpsE.no rfl rfl rfl ?_ | refine OpsE.off rfl rfl rfl ?_
      first | (refine OpsE.yes rfl rfl ?_; refine OpsE.ev (Ev.load H rfl (by kernel_rfl) (by first | exact Rd.mk m0 rfl | exact Rd.mk m1 rfl | exact Rd.mk m2 rfl | exact Rd.mk m3 rfl | assumption)) rfl ?_) | refine OpsE.no rfl rfl rfl ?_ | refine OpsE.off rfl rfl rfl ?_
      first | (refine OpsE.yes rfl rfl ?_; refine OpsE.ev (Ev.not rfl) rfl ?_) | refine OpsE.no rfl rfl rfl ?_ | refine OpsE.off rfl rfl rfl ?_
      first | (refine OpsE.yes rfl rfl ?_; refine OpsE.ev (Ev.move rfl) rfl ?_) | refine OpsE.no rfl rfl rfl ?_ | refine OpsE.off rfl rfl rfl ?_
      first | (refine OpsE.yes rfl rfl ?_; refine OpsE.ev (Ev.move rfl) rfl ?_) | refine OpsE.no rfl rfl rfl ?_ | refine OpsE.off rfl rfl rfl ?_
      first | (refine OpsE.yes rfl rfl ?_; refine OpsE.ev ((by first | exact Ev.pickT rfl rfl | exact Ev.pickF rfl rfl)) rfl ?_) | refine OpsE.no rfl rfl rfl ?_ | refine OpsE.off rfl rfl rfl ?_
      first | (refine OpsE.yes rfl rfl ?_; refine OpsE.ev (Ev.move rfl) rfl ?_) | refine OpsE.no rfl rfl rfl ?_ | refine OpsE.off rfl rfl rfl ?_
      first | (refine OpsE.yes rfl rfl ?_; refine OpsE.ev (Ev.fieldAddr (o := 1) rfl (by kernel_rfl)) rfl ?_) | refine OpsE.no rfl rfl rfl ?_ | refine OpsE.off rfl rfl rfl ?_
      first | (refine OpsE.yes rfl rfl ?_; refine OpsE.ev (Ev.load H rfl (by kernel_rfl) (by first | exact Rd.mk m0 rfl | exact Rd.mk m1 rfl | exact Rd.mk m2 rfl | exact Rd.mk m3 rfl | assumption)) rfl ?_) | refine OpsE.no rfl rfl rfl ?_ | refine OpsE.off rfl rfl rfl ?_
      first | (refine OpsE.yes rfl rfl ?_; refine OpsE.ev (Ev.fieldAddr (o := 1) rfl (by kernel_rfl)) rfl ?_) | refine OpsE.no rfl rfl rfl ?_ | refine OpsE.off rfl rfl rfl ?_
      first | (refine OpsE.yes rfl rfl ?_; refine OpsE.ev (Ev.load H rfl (by kernel_rfl) (by first | exact Rd.mk m0 rfl | exact Rd.mk m1 rfl | exact Rd.mk m2 rfl | exact Rd.mk m3 rfl | assumption)) rfl ?_) | refine OpsE.no rfl rfl rfl ?_ | refine OpsE.off rfl rfl rfl ?_
      first | (refine OpsE.yes rfl rfl ?_; refine OpsE.ev ((?op_binOp)) rfl ?_) | refine OpsE.no rfl rfl rfl ?_ | refine OpsE.off rfl rfl rfl ?_
      first | (refine OpsE.yes rfl rfl ?_; refine OpsE.ev ((by first | exact Ev.pickT rfl rfl | exact Ev.pickF rfl rfl)) rfl ?_) | refine OpsE.no rfl rfl rfl ?_ | refine OpsE.off rfl rfl rfl ?_
      refine OpsE.ev ((by first | exact Ev.pickT rfl rfl | exact Ev.pickF rfl rfl)) rfl ?_
      refine OpsE.ev (Ev.assign rfl) rfl ?_
      refine OpsE.nil ?_
      repeat (first | refine .seq ?_ | refine .skip ?_ | refine .block ?_ | refine .inBlock ?_ | refine .yes rfl ?_ | refine .no rfl ?_ | refine .exit rfl ?_)
      exact RunsE.ret1 Tryz.func79 rfl rfl ⟨by rw [sameM, hf, hg], H.drop.drop⟩
    | some y =>
      rw [hf] at H
      simp only [Option.isSome_some, Option.getD_some]
      repeat (first | refine .seq ?_ | refine .skip ?_ | refine .block ?_ | refine .inBlock ?_ | refine .yes rfl ?_ | refine .no rfl ?_ | refine .exit rfl ?_)
      refine RunsE.region ?_
      refine OpsE.ev (Ev.fieldAddr (o := 2) rfl (by kernel_rfl)) rfl ?_
      refine OpsE.ev (Ev.load H rfl (by kernel_rfl) (by first | exact Rd.mk m0 rfl | exact Rd.mk m1 rfl | exact Rd.mk m2 rfl | exact Rd.mk m3 rfl | assumption)) rfl ?_
      refine OpsE.ev (Ev.move rfl) rfl ?_
      first | (refine OpsE.yes rfl rfl ?_; refine OpsE.ev (Ev.move rfl) rfl ?_) | refine OpsE.no rfl rfl rfl ?_ | refine OpsE.off rfl rfl rfl ?_
      first | (refine OpsE.yes rfl rfl ?_; refine OpsE.ev (Ev.not rfl) rfl ?_) | refine OpsE.no rfl rfl rfl ?_ | refine OpsE.off rfl rfl rfl ?_
      refine OpsE.ev ((by first | exact Ev.pickT rfl rfl | exact Ev.pickF rfl rfl)) rfl ?_
      refine OpsE.ev (Ev.move rfl) rfl ?_
      first | (refine OpsE.yes rfl rfl ?_; refine OpsE.ev (Ev.fieldAddr (o := 2) rfl (by kernel_rfl)) rfl ?_) | refine OpsE.no rfl rfl rfl ?_ | refine OpsE.off rfl rfl rfl ?_
      first | (refine OpsE.yes rfl rfl ?_; refine OpsE.ev (Ev.load H rfl (by kernel_rfl) (by first | exact Rd.mk m0 rfl | exact Rd.mk m1 rfl | exact Rd.mk m2 rfl | exact Rd.mk m3 rfl | assumption)) rfl ?_) | refine OpsE.no rfl rfl rfl ?_ | refine OpsE.off rfl rfl rfl ?_
      first | (refine OpsE.yes rfl rfl ?_; refine OpsE.ev (Ev.not rfl) rfl ?_) | refine OpsE.no rfl rfl rfl ?_ | refine OpsE.off rfl rfl rfl ?_
      first | (refine OpsE.yes rfl rfl ?_; refine OpsE.ev (Ev.move rfl) rfl ?_) | refine OpsE.no rfl rfl rfl ?_ | refine OpsE.off rfl rfl rfl ?_
      first | (refine OpsE.yes rfl rfl ?_; refine OpsE.ev (Ev.move rfl) rfl ?_) | refine OpsE.no rfl rfl rfl ?_ | refine OpsE.off rfl rfl rfl ?_
      first | (refine OpsE.yes rfl rfl ?_; refine OpsE.ev ((by first | exact Ev.pickT rfl rfl | exact Ev.pickF rfl rfl)) rfl ?_) | refine OpsE.no rfl rfl rfl ?_ | refine OpsE.off rfl rfl rfl ?_
      first | (refine OpsE.yes rfl rfl ?_; refine OpsE.ev (Ev.move rfl) rfl ?_) | refine OpsE.no rfl rfl rfl ?_ | refine OpsE.off rfl rfl rfl ?_
      first | (refine OpsE.yes rfl rfl ?_; refine OpsE.ev (Ev.fieldAddr (o := 1) rfl (by kernel_rfl)) rfl ?_) | refine OpsE.no rfl rfl rfl ?_ | refine OpsE.off rfl rfl rfl ?_
      first | (refine OpsE.yes rfl rfl ?_; refine OpsE.ev (Ev.load H rfl (by kernel_rfl) (by first | exact Rd.mk m0 rfl | exact Rd.mk m1 rfl | exact Rd.mk m2 rfl | exact Rd.mk m3 rfl | assumption)) rfl ?_) | refine OpsE.no rfl rfl rfl ?_ | refine OpsE.off rfl rfl rfl ?_
      first | (refine OpsE.yes rfl rfl ?_; refine OpsE.ev (Ev.fieldAddr (o := 1) rfl (by kernel_rfl)) rfl ?_) | refine OpsE.no rfl rfl rfl ?_ | refine OpsE.off rfl rfl rfl ?_
      first | (refine OpsE.yes rfl rfl ?_; refine OpsE.ev (Ev.load H rfl (by kernel_rfl) (by first | exact Rd.mk m0 rfl | exact Rd.mk m1 rfl | exact Rd.mk m2 rfl | exact Rd.mk m3 rfl | assumption)) rfl ?_) | refine OpsE.no rfl rfl rfl ?_ | refine OpsE.off rfl rfl rfl ?_
      first | (refine OpsE.yes rfl rfl ?_; refine OpsE.ev ((?op_binOp)) rfl ?_) | refine OpsE.no rfl rfl rfl ?_ | refine OpsE.off rfl rfl rfl ?_
      first | (refine OpsE.yes rfl rfl ?_; refine OpsE.ev ((by first | exact Ev.pickT rfl rfl | exact Ev.pickF rfl rfl)) rfl ?_) | refine OpsE.no rfl rfl rfl ?_ | refine OpsE.off rfl rfl rfl ?_
      refine OpsE.ev ((by first | exact Ev.pickT rfl rfl | exact Ev.pickF rfl rfl)) rfl ?_
      refine OpsE.ev (Ev.assign rfl) rfl ?_
      refine OpsE.nil ?_
      repeat (first | refine .seq ?_ | refine .skip ?_ | refine .block ?_ | refine .inBlock ?_ | refine .yes rfl ?_ | refine .no rfl ?_ | refine .exit rfl ?_)
      exact RunsE.ret1 Tryz.func79 rfl rfl ⟨by simp [sameM, hf, hg], H.drop.drop⟩
  | false =>
    rw [hg] at H
    cases hf : findL l ch.key with
    | none =>
      rw [hf] at H
      simp only [Option.isSome_none, Option.getD_none]
      repeat (first | refine .seq ?_ | refine .skip ?_ | refine .block ?_ | refine .inBlock ?_ | refine .yes rfl ?_ | refine .no rfl ?_ | refine .exit rfl ?_)
      refine RunsE.region ?_
      refine OpsE.ev (Ev.fieldAddr (o := 2) rfl (by kernel_rfl)) rfl ?_
      refine OpsE.ev (Ev.load H rfl (by kernel_rfl) (by first | exact Rd.mk m0 rfl | exact Rd.mk m1 rfl | exact Rd.mk m2 rfl | exact Rd.mk m3 rfl | assumption)) rfl ?_
      refine OpsE.ev (Ev.move rfl) rfl ?_
      first | (refine OpsE.yes rfl rfl ?_; refine OpsE.ev (Ev.move rfl) rfl ?_) | refine OpsE.no rfl rfl rfl ?_ | refine OpsE.off rfl rfl rfl ?_
      first | (refine OpsE.yes rfl rfl ?_; refine OpsE.ev (Ev.not rfl) rfl ?_) | refine OpsE.no rfl rfl rfl ?_ | refine OpsE.off rfl rfl rfl ?_
      refine OpsE.ev ((by first | exact Ev.pickT rfl rfl | exact Ev.pickF rfl rfl)) rfl ?_
      refine OpsE.ev (Ev.move rfl) rfl ?_
      first | (refine OpsE.yes rfl rfl ?_; refine OpsE.ev (Ev.fieldAddr (o := 2) rfl (by kernel_rfl)) rfl ?_) | refine OpsE.no rfl rfl rfl ?_ | refine OpsE.off rfl rfl rfl ?_
      first | (refine OpsE.yes rfl rfl ?_; refine OpsE.ev (Ev.load H rfl (by kernel_rfl) (by first | exact Rd.mk m0 rfl | exact Rd.mk m1 rfl | exact Rd.mk m2 rfl | exact Rd.mk m3 rfl | assumption)) rfl ?_) | refine OpsE.no rfl rfl rfl ?_ | refine OpsE.off rfl rfl rfl ?_
      first | (refine OpsE.yes rfl rfl ?_; refine OpsE.ev (Ev.not rfl) rfl ?_) | refine OpsE.no rfl rfl rfl ?_ | refine OpsE.off rfl rfl rfl ?_
      first | (refine OpsE.yes rfl rfl ?_; refine OpsE.ev (Ev.move rfl) rfl ?_) | refine OpsE.no rfl rfl rfl ?_ | refine OpsE.off rfl rfl rfl ?_
      first | (refine OpsE.yes rfl rfl ?_; refine OpsE.ev (Ev.move rfl) rfl ?_) | refine OpsE.no rfl rfl rfl ?_ | refine OpsE.off rfl rfl rfl ?_
      first | (refine OpsE.yes rfl rfl ?_; refine OpsE.ev ((by first | exact Ev.pickT rfl rfl | exact Ev.pickF rfl rfl)) rfl ?_) | refine OpsE.no rfl rfl rfl ?_ | refine OpsE.off rfl rfl rfl ?_
      first | (refine OpsE.yes rfl rfl ?_; refine OpsE.ev (Ev.move rfl) rfl ?_) | refine OpsE.no rfl rfl rfl ?_ | refine OpsE.off rfl rfl rfl ?_
      first | (refine OpsE.yes rfl rfl ?_; refine OpsE.ev (Ev.fieldAddr (o := 1) rfl (by kernel_rfl)) rfl ?_) | refine OpsE.no rfl rfl rfl ?_ | refine OpsE.off rfl rfl rfl ?_
      first | (refine OpsE.yes rfl rfl ?_; refine OpsE.ev (Ev.load H rfl (by kernel_rfl) (by first | exact Rd.mk m0 rfl | exact Rd.mk m1 rfl | exact Rd.mk m2 rfl | exact Rd.mk m3 rfl | assumption)) rfl ?_) | refine OpsE.no rfl rfl rfl ?_ | refine OpsE.off rfl rfl rfl ?_
      first | (refine OpsE.yes rfl rfl ?_; refine OpsE.ev (Ev.fieldAddr (o := 1) rfl (by kernel_rfl)) rfl ?_) | refine OpsE.no rfl rfl rfl ?_ | refine OpsE.off rfl rfl rfl ?_
      first | (refine OpsE.yes rfl rfl ?_; refine OpsE.ev (Ev.load H rfl (by kernel_rfl) (by first | exact Rd.mk m0 rfl | exact Rd.mk m1 rfl | exact Rd.mk m2 rfl | exact Rd.mk m3 rfl | assumption)) rfl ?_) | refine OpsE.no rfl rfl rfl ?_ | refine OpsE.off rfl rfl rfl ?_
      first | (refine OpsE.yes rfl rfl ?_; refine OpsE.ev ((?op_binOp)) rfl ?_) | refine OpsE.no rfl rfl rfl ?_ | refine OpsE.off rfl rfl rfl ?_
      first | (refine OpsE.yes rfl rfl ?_; refine OpsE.ev ((by first | exact Ev.pickT rfl rfl | exact Ev.pickF rfl rfl)) rfl ?_) | refine OpsE.no rfl rfl rfl ?_ | refine OpsE.off rfl rfl rfl ?_
      refine OpsE.ev ((by first | exact Ev.pickT rfl rfl | exact Ev.pickF rfl rfl)) rfl ?_
      refine OpsE.ev (Ev.assign rfl) rfl ?_
      refine OpsE.nil ?_
      repeat (first | refine .seq ?_ | refine .skip ?_ | refine .block ?_ | refine .inBlock ?_ | refine .yes rfl ?_ | refine .no rfl ?_ | refine .exit rfl ?_)
      exact RunsE.ret1 Tryz.func79 rfl rfl ⟨by rw [sameM, hf, hg], H.drop.drop⟩
    | some y =>
      rw [hf] at H
      simp only [Option.isSome_some, Option.getD_some]
      repeat (first | refine .seq ?_ | refine .skip ?_ | refine .block ?_ | refine .inBlock ?_ | refine .yes rfl ?_ | refine .no rfl ?_ | refine .exit rfl ?_)
      refine RunsE.region ?_
      refine OpsE.ev (Ev.fieldAddr (o := 2) rfl (by kernel_rfl)) rfl ?_
      refine OpsE.ev (Ev.load H rfl (by kernel_rfl) (by first | exact Rd.mk m0 rfl | exact Rd.mk m1 rfl | exact Rd.mk m2 rfl | exact Rd.mk m3 rfl | assumption)) rfl ?_
      refine OpsE.ev (Ev.move rfl) rfl ?_
      first | (refine OpsE.yes rfl rfl ?_; refine OpsE.ev (Ev.move rfl) rfl ?_) | refine OpsE.no rfl rfl rfl ?_ | refine OpsE.off rfl rfl rfl ?_
      first | (refine OpsE.yes rfl rfl ?_; refine OpsE.ev (Ev.not rfl) rfl ?_) | refine OpsE.no rfl rfl rfl ?_ | refine OpsE.off rfl rfl rfl ?_
      refine OpsE.ev ((by first | exact Ev.pickT rfl rfl | exact Ev.pickF rfl rfl)) rfl ?_
      refine OpsE.ev (Ev.move rfl) rfl ?_
      first | (refine OpsE.yes rfl rfl ?_; refine OpsE.ev (Ev.fieldAddr (o := 2) rfl (by kernel_rfl)) rfl ?_) | refine OpsE.no rfl rfl rfl ?_ | refine OpsE.off rfl rfl rfl ?_
      first | (refine OpsE.yes rfl rfl ?_; refine OpsE.ev (Ev.load H rfl (by kernel_rfl) (by first | exact Rd.mk m0 rfl | exact Rd.mk m1 rfl | exact Rd.mk m2 rfl | exact Rd.mk m3 rfl | assumption)) rfl ?_) | refine OpsE.no rfl rfl rfl ?_ | refine OpsE.off rfl rfl rfl ?_
      first | (refine OpsE.yes rfl rfl ?_; refine OpsE.ev (Ev.not rfl) rfl ?_) | refine OpsE.no rfl rfl rfl ?_ | refine OpsE.off rfl rfl rfl ?_
      first | (refine OpsE.yes rfl rfl ?_; refine OpsE.ev (Ev.move rfl) rfl ?_) | refine OpsE.no rfl rfl rfl ?_ | refine OpsE.off rfl rfl rfl ?_
      first | (refine OpsE.yes rfl rfl ?_; refine OpsE.ev (Ev.move rfl) rfl ?_) | refine OpsE.no rfl rfl rfl ?_ | refine OpsE.off rfl rfl rfl ?_
      first | (refine OpsE.yes rfl rfl ?_; refine OpsE.ev ((by first | exact Ev.pickT rfl rfl | exact Ev.pickF rfl rfl)) rfl ?_) | refine OpsE.no rfl rfl rfl ?_ | refine OpsE.off rfl rfl rfl ?_
      first | (refine OpsE.yes rfl rfl ?_; refine OpsE.ev (Ev.move rfl) rfl ?_) | refine OpsE.no rfl rfl rfl ?_ | refine OpsE.off rfl rfl rfl ?_
      first | (refine OpsE.yes rfl rfl ?_; refine OpsE.ev (Ev.fieldAddr (o := 1) rfl (by kernel_rfl)) rfl ?_) | refine OpsE.no rfl rfl rfl ?_ | refine OpsE.off rfl rfl rfl ?_
      first | (refine OpsE.yes rfl rfl ?_; refine OpsE.ev (Ev.load H rfl (by kernel_rfl) (by first | exact Rd.mk m0 rfl | exact Rd.mk m1 rfl | exact Rd.mk m2 rfl | exact Rd.mk m3 rfl | assumption)) rfl ?_) | refine OpsE.no rfl rfl rfl ?_ | refine OpsE.off rfl rfl rfl ?_
      first | (refine OpsE.yes rfl rfl ?_; refine OpsE.ev (Ev.fieldAddr (o := 1) rfl (by kernel_rfl)) rfl ?_) | refine OpsE.no rfl rfl rfl ?_ | refine OpsE.off rfl rfl rfl ?_
      first | (refine OpsE.yes rfl rfl ?_; refine OpsE.ev (Ev.load H rfl (by kernel_rfl) (by first | exact Rd.mk m0 rfl | exact Rd.mk m1 rfl | exact Rd.mk m2 rfl | exact Rd.mk m3 rfl | assumption)) rfl ?_) | refine OpsE.no rfl rfl rfl ?_ | refine OpsE.off rfl rfl rfl ?_
      first | (refine OpsE.yes rfl rfl ?_; refine OpsE.ev (Ev.strEqR (cs := y.val) (bs := ch.val) rfl rfl rfl) rfl ?_) | refine OpsE.no rfl rfl rfl ?_ | refine OpsE.off rfl rfl rfl ?_
      first | (refine OpsE.yes rfl rfl ?_; refine OpsE.ev ((by first | exact Ev.pickT rfl rfl | exact Ev.pickF rfl rfl)) rfl ?_) | refine OpsE.no rfl rfl rfl ?_ | refine OpsE.off rfl rfl rfl ?_
      refine OpsE.ev ((by first | exact Ev.pickT rfl rfl | exact Ev.pickF rfl rfl)) rfl ?_
      refine OpsE.ev (Ev.assign rfl) rfl ?_
      refine OpsE.nil ?_
      repeat (first | refine .seq ?_ | refine .skip ?_ | refine .block ?_ | refine .inBlock ?_ | refine .yes rfl ?_ | refine .no rfl ?_ | refine .exit rfl ?_)
      exact RunsE.ret1 Tryz.func79 rfl rfl ⟨by simp [sameM, hf, hg], H.drop.drop⟩

set_option maxHeartbeats 1000000 in
theorem mdelete_spec [Strm] (m : Nat) (om : Obj) (cl : List Ch) (hn : (cl.map Ch.key).Nodup) (del : Ch → Bool) (kf : FuncId) (cap : Array Value) (w : World) (X : List (Nat × Obj)) (ho : Mp om (kvC cl))
    (eg : ∀ args w, (callFunc kf args).run Tryz.prog w = .ok (.enter kf args) w)
    (hk : ∀ c ∈ cl, ∀ w Y, SL w (Y ++ X) → Does Tryz.prog kf (#[] ++ [sV c.key, chV c].toArray ++ cap) w fun r w' => r = .bool (del c) ∧ SL w' (Y ++ X)) (H : SL w ((m, om) :: X)) :
    Does Tryz.prog 78 #[.map (some m), .func (.func kf) #[] cap] w fun r w' => ∃ om', Mp om' (kvC (cl.filter fun c => !del c)) ∧ SL w' ((m, om') :: X) := by
  refine Does.intro (args := [_, _]) (e := [(0, _), (1, _)]) Tryz.func78 rfl Tryz.ntmps78 rfl rfl ?_
  repeat (first | refine .seq ?_ | refine .skip ?_ | refine .block ?_ | refine .inBlock ?_ | refine .yes rfl ?_ | refine .no rfl ?_ | refine .exit rfl ?_)
  repeat (first | refine .seq ?_ | refine .skip ?_ | refine .block ?_ | refine .inBlock ?_ | refine .yes rfl ?_ | refine .no rfl ?_ | refine .exit rfl ?_)
  refine RunsE.region ?_
  refine OpsE.ev (Ev.move rfl) rfl ?_
  refine OpsE.ex (Ex.rangeS H mapCh rfl (.head _) ho) rfl ?_; (try clear H); rintro _ w ⟨it, oi, rfl, hi, H⟩
  refine OpsE.nil ?_
  refine RunsE.block ?_
  refine RunsE.loop (fun _ : List Ch × List KV × Obj × Obj => [(0, .map (some m)), (1, .func (.func kf) #[] cap), (7, .pointer (some ⟨it, 0, none⟩))])
    (fun q w => ItM q.2.2.1 q.2.2.2 m (kvC (q.1.filter fun c => !del c)) q.2.1 ∧ (kvC q.1 ++ q.2.1).Perm (kvC cl) ∧ SL w ((it, q.2.2.2) :: (m, q.2.2.1) :: X)) (fun q => q.2.1.length) ([], kvC cl, om, oi) ⟨rfl, rfl, rfl, trivial⟩ ⟨hi, .refl _, H⟩ ?_
  clear H hi ho
  rintro ⟨dl, rest, om, oi⟩ w ⟨hi, hp, H⟩ nextL
  simp only at hi hp H
  repeat (first | refine .seq ?_ | refine .skip ?_ | refine .block ?_ | refine .inBlock ?_ | refine .yes rfl ?_ | refine .no rfl ?_ | refine .exit rfl ?_)
  refine RunsE.region ?_
  refine OpsE.ex (Ex.nextSO (M := fun oi => (it, oi) :: (m, om) :: X) H rfl (fun o' => .head) (.tail _ (.head _)) hi) rfl ?_; (try clear H); rintro _ w ⟨oo, oi', rfl, H, hno, hsm⟩
  refine OpsE.ev (Ev.extract rfl (nextV_0 oo)) rfl ?_
  refine OpsE.nil ?_
  cases oo with
  | none =>
    obtain ⟨rfl, rfl⟩ := hno rfl
    rw [List.append_nil] at hp
    repeat refine RunsE.seq ?_
    refine RunsE.no rfl ?_
    refine RunsE.exit rfl ?_
    have h1 := hi.all
    rw [List.append_nil] at h1
    exact RunsE.end0 Tryz.func78 rfl ⟨om, h1.perm (((kvc_perm hp hn).filter _).map _), H.drop⟩
  | some a =>
    obtain ⟨rest', hrp, hic⟩ := hsm a rfl
    obtain ⟨y, hy, rfl, hp', hlt⟩ := kvc_step hp hrp
    repeat refine RunsE.seq ?_
    refine RunsE.yes rfl ?_
    repeat (first | refine .seq ?_ | refine .skip ?_ | refine .block ?_ | refine .inBlock ?_ | refine .yes rfl ?_ | refine .no rfl ?_ | refine .exit rfl ?_)
    refine RunsE.region ?_
    refine OpsE.ev (Ev.entryS H rfl (.head _) (.tail _ (.head _)) hic) rfl ?_
    refine OpsE.ev (Ev.extract rfl rfl) rfl ?_
    refine OpsE.ev (Ev.extract rfl rfl) rfl ?_
    refine OpsE.ex (Ex.alloc (zv := .agg #[.string .empty, .string .empty, .bool false]) H (by kernel_rfl)) rfl ?_; (try clear H); rintro _ w ⟨b5, rfl, H⟩; simp only [Value.cells] at H
    refine OpsE.ev (Ev.assign rfl) rfl ?_
    refine OpsE.exn (Ex.storeBlk (n := 3) H rfl rfl (by kernel_rfl) (by first | rfl | simp) (by simp [Value.oneCell']) u0 (by first | rfl | simp) (Thaw.zero _ _)) ?_; (try clear H); intro _ w H
    refine OpsE.nil ?_
    repeat (first | refine .seq ?_ | refine .skip ?_ | refine .block ?_ | refine .inBlock ?_ | refine .yes rfl ?_ | refine .no rfl ?_ | refine .exit rfl ?_)
    refine RunsE.region ?_
    refine OpsE.ev (Ev.move rfl) rfl ?_
    refine OpsE.ev (Ev.move rfl) rfl ?_
    refine OpsE.ev (Ev.loadBlk (n := 3) (vs := gC y) H rfl (by kernel_rfl) rfl m0) rfl ?_
    refine OpsE.ex (Ex.callv rfl rfl eg (hk y hy w [_, _, _] H)) rfl ?_; (try clear H); rintro _ w ⟨rfl, H⟩
    refine OpsE.nil ?_
    cases hd : del y with
    | true =>
      repeat refine RunsE.seq ?_
      refine RunsE.yes rfl ?_
      repeat (first | refine .seq ?_ | refine .skip ?_ | refine .block ?_ | refine .inBlock ?_ | refine .yes rfl ?_ | refine .no rfl ?_ | refine .exit rfl ?_)
      refine RunsE.region ?_
      refine OpsE.ev (Ev.move rfl) rfl ?_
      refine OpsE.ev (Ev.move rfl) rfl ?_
      refine OpsE.exn (Ex.deleteC (M := fun o => (b5, .cells (gC y).toArray 53 (0, 0)) :: (it, oi') :: (m, o) :: X) H mapCh rfl rfl (fun o' => .tail (.tail .head)) hic) ?_; (try clear H); rintro _ w ⟨om', hi', H⟩
      refine OpsE.nil ?_
      refine RunsE.inBlock ?_
      refine nextL (dl ++ [y], rest', om', oi') _ _ hlt ⟨?_, hp', H.drop⟩ ⟨rfl, rfl, rfl, trivial⟩
      have e1 : ((dl ++ [y]).filter fun c => !del c) = dl.filter fun c => !del c := by
        rw [List.filter_append, List.filter_cons, hd]; simp
      simp only
      rw [e1]
      exact hi'
    | false =>
      repeat refine RunsE.seq ?_
      refine RunsE.no rfl ?_
      refine RunsE.skip ?_
      refine RunsE.inBlock ?_
      refine nextL (dl ++ [y], rest', om, oi') _ _ hlt ⟨?_, hp', H.drop⟩ ⟨rfl, rfl, rfl, trivial⟩
      have e1 : ((dl ++ [y]).filter fun c => !del c) = (dl.filter fun c => !del c) ++ [y] := by
        rw [List.filter_append, List.filter_cons, hd]; simp
      simp only
      rw [e1]
      have := hic.toM
      simpa [kvC] using this

set_option maxHeartbeats 1000000 in
theorem changed_spec [Strm] (s p fr count m dead : Nat) (o : Obj) (l : List Lf) (cs : List Ch) (v : Value) (w : World) (X : List (Nat × Obj)) (hv : ElsA 3 (ChAt X) v cs) (hl : cs.length ≤ 1000000) (hs : (s, shO p fr count m dead) ∈ X) (hm : (m, o) ∈ X) (ho : Mp o (kvL l)) (H : SL w X) :
    Does Tryz.prog 47 #[.pointer (some ⟨s, 0, none⟩), v] w fun r w' => ∃ mc oc, r = .map (some mc) ∧ Mp oc (kvC (changesM l cs)) ∧ SL w' ((mc, oc) :: X) := by
  obtain ⟨av, cv, rfl, hcv⟩ := hv.len
  refine Does.intro (args := [_, _]) (e := [(0, _), (1, _)]) Tryz.func47 rfl Tryz.ntmps47 rfl rfl ?_
  repeat (first | refine .seq ?_ | refine .skip ?_ | refine .block ?_ | refine .inBlock ?_ | refine .yes rfl ?_ | refine .no rfl ?_ | refine .exit rfl ?_)
  repeat (first | refine .seq ?_ | refine .skip ?_ | refine .block ?_ | refine .inBlock ?_ | refine .yes rfl ?_ | refine .no rfl ?_ | refine .exit rfl ?_)
  refine RunsE.region ?_
  refine OpsE.ex (Ex.box H rfl) rfl ?_; (try clear H); rintro _ w ⟨b2, rfl, H⟩; simp only [Value.cells] at H
  refine OpsE.ev (Ev.assign rfl) rfl ?_
  refine OpsE.nil ?_
  repeat (first | refine .seq ?_ | refine .skip ?_ | refine .block ?_ | refine .inBlock ?_ | refine .yes rfl ?_ | refine .no rfl ?_ | refine .exit rfl ?_)
  refine RunsE.region ?_
  refine OpsE.ex (Ex.makeMapS H) rfl ?_; (try clear H); rintro _ w ⟨mc, oc, rfl, hoc, H⟩
  refine OpsE.ev (Ev.assign rfl) rfl ?_
  refine OpsE.nil ?_
  repeat (first | refine .seq ?_ | refine .skip ?_ | refine .block ?_ | refine .inBlock ?_ | refine .yes rfl ?_ | refine .no rfl ?_ | refine .exit rfl ?_)
  refine RunsE.region ?_
  refine OpsE.ev (Ev.move rfl) rfl ?_
  refine OpsE.ev (Ev.lenSl (d := 53) rfl rfl (by kernel_rfl)) rfl ?_
  refine OpsE.ev (Ev.move rfl) rfl ?_
  refine OpsE.nil ?_
  repeat refine RunsE.seq ?_
  refine RunsE.join (fun _ : Unit => [(0, .pointer (some ⟨s, 0, none⟩)), (2, .pointer (some ⟨b2, 0, none⟩)), (5, .map (some mc))])
    (fun _ w => ∃ oc, Mp oc (kvC (lastsM cs)) ∧ SL w ((mc, oc) :: (b2, .cells #[.pointer (some ⟨s, 0, none⟩)] 31 (0, 0)) :: X)) (fun next => ?_) ?_
  · refine RunsE.block ?_
    refine RunsE.loop (fun i : Nat => [(0, .pointer (some ⟨s, 0, none⟩)), (2, .pointer (some ⟨b2, 0, none⟩)), (5, .map (some mc)), (9, .slice av cs.length cv), (10, .int .i64 (cs.length : Int)), (11, .int .i64 (i : Int))])
      (fun i w => i ≤ cs.length ∧ ∃ oc, Mp oc (kvC (lastsM (cs.take i))) ∧ SL w ((mc, oc) :: (b2, .cells #[.pointer (some ⟨s, 0, none⟩)] 31 (0, 0)) :: X)) (fun i => cs.length - i) 0 ⟨rfl, rfl, rfl, rfl, rfl, rfl, trivial⟩ ⟨by omega, oc, hoc, H⟩ ?_
    clear H hoc oc
    rintro i w ⟨hi, oc, hoc, H⟩ nextL
    by_cases h1 : i = cs.length
    ·
      repeat (first | refine .seq ?_ | refine .skip ?_ | refine .block ?_ | refine .inBlock ?_ | refine .yes rfl ?_ | refine .no rfl ?_ | refine .exit rfl ?_)
      refine RunsE.region ?_
      refine OpsE.ev (Ev.lss (r := false) rfl rfl (decide_eq_false (by omega))) rfl ?_
      refine OpsE.nil ?_
      repeat refine RunsE.seq ?_
      refine RunsE.no rfl ?_
      refine RunsE.exit rfl ?_
      rw [h1, List.take_length] at hoc
      exact next () _ _ ⟨oc, hoc, H⟩ ⟨rfl, rfl, rfl, trivial⟩
    · clear next
      have hil : i < cs.length := by omega
      obtain ⟨c, hc⟩ : ∃ c, cs[i]? = some c := ⟨cs[i], List.getElem?_eq_getElem hil⟩
      obtain ⟨bv, ov, rfl, hat⟩ := hv.at hc
      repeat (first | refine .seq ?_ | refine .skip ?_ | refine .block ?_ | refine .inBlock ?_ | refine .yes rfl ?_ | refine .no rfl ?_ | refine .exit rfl ?_)
      refine RunsE.region ?_
      refine OpsE.ev (Ev.lss (r := true) rfl rfl (decide_eq_true (by omega))) rfl ?_
      refine OpsE.nil ?_
      repeat (first | refine .seq ?_ | refine .skip ?_ | refine .block ?_ | refine .inBlock ?_ | refine .yes rfl ?_ | refine .no rfl ?_ | refine .exit rfl ?_)
      repeat (first | refine .seq ?_ | refine .skip ?_ | refine .block ?_ | refine .inBlock ?_ | refine .yes rfl ?_ | refine .no rfl ?_ | refine .exit rfl ?_)
      refine RunsE.region ?_
      refine OpsE.ev (Ev.iaSl (n := 53) (sz := 3) (m := i) (o := ov + i * 3) rfl rfl rfl (by kernel_rfl) hil) rfl ?_
      refine OpsE.ev (Ev.loadAgg (vs := gC c) H rfl (by kernel_rfl) (fun j u hj => by rw [add_none]; exact (hat j u hj).tail.tail)) rfl ?_
      refine OpsE.ex (Ex.alloc (zv := .agg #[.string .empty, .string .empty, .bool false]) H (by kernel_rfl)) rfl ?_; (try clear H); rintro _ w ⟨b7, rfl, H⟩; simp only [Value.cells] at H
      refine OpsE.exn (Ex.storeBlk (n := 3) H rfl rfl (by kernel_rfl) (by first | rfl | simp) (by simp [Value.oneCell']) u0 (by first | rfl | simp) (Thaw.zero _ _)) ?_; (try clear H); intro _ w H
      refine OpsE.nil ?_
      repeat (first | refine .seq ?_ | refine .skip ?_ | refine .block ?_ | refine .inBlock ?_ | refine .yes rfl ?_ | refine .no rfl ?_ | refine .exit rfl ?_)
      refine RunsE.region ?_
      refine OpsE.ev (Ev.move rfl) rfl ?_
      refine OpsE.ev (Ev.fieldAddr (o := 0) rfl (by kernel_rfl)) rfl ?_
      refine OpsE.ev (Ev.load H rfl (by kernel_rfl) (by first | exact Rd.mk m0 rfl | exact Rd.mk m1 rfl | exact Rd.mk m2 rfl | exact Rd.mk m3 rfl | assumption)) rfl ?_
      refine OpsE.ev (Ev.loadBlk (n := 3) (vs := gC c) H rfl (by kernel_rfl) rfl m0) rfl ?_
      refine OpsE.exn (Ex.mapUpdateS (M := fun o => (b7, .cells (gC c).toArray 53 (0, 0)) :: (mc, o) :: (b2, .cells #[.pointer (some ⟨s, 0, none⟩)] 31 (0, 0)) :: X) H mapCh rfl rfl rfl (fun o' => .tail .head) hoc) ?_; (try clear H); rintro _ w ⟨oc', hoc', H⟩
      refine OpsE.nil ?_
      repeat (first | refine .seq ?_ | refine .skip ?_ | refine .block ?_ | refine .inBlock ?_ | refine .yes rfl ?_ | refine .no rfl ?_ | refine .exit rfl ?_)
      refine RunsE.region ?_
      refine OpsE.ev (Ev.add rfl rfl) rfl ?_
      refine OpsE.ev (Ev.move rfl) rfl ?_
      refine OpsE.nil ?_
      refine nextL (i + 1) _ _ (by omega) ⟨by omega, oc', ?_, H.drop⟩ ⟨rfl, rfl, rfl, rfl, rfl, rfl, trivial⟩
      have e1 : cs.take (i + 1) = cs.take i ++ [c] := by rw [List.take_add_one, hc]; rfl
      rw [e1]
      exact hoc'.perm (lasts_put (.refl _))
  · clear H hoc oc
    rintro _ w ⟨oc, hoc, H⟩
    repeat (first | refine .seq ?_ | refine .skip ?_ | refine .block ?_ | refine .inBlock ?_ | refine .yes rfl ?_ | refine .no rfl ?_ | refine .exit rfl ?_)
    refine RunsE.region ?_
    refine OpsE.ev (Ev.move rfl) rfl ?_
    refine OpsE.ev (Ev.makeFunc rfl rfl) rfl ?_
    refine OpsE.ex (Ex.call rfl Tryz.call78 (mdelete_spec mc oc (lastsM cs) lasts_nodup (sameM l) 79 #[.pointer (some ⟨b2, 0, none⟩)] w _ hoc Tryz.call79 (fun c _ w Y H => changed1_spec b2 s p fr count m dead o l c w _ (Rd.right (Rd.mk m0 rfl)) (List.mem_append_right _ (.tail _ hs)) (List.mem_append_right _ (.tail _ hm)) ho H) H)) rfl ?_; (try clear H); rintro _ w ⟨oc', hoc', H⟩
    refine OpsE.nil ?_
    repeat (first | refine .seq ?_ | refine .skip ?_ | refine .block ?_ | refine .inBlock ?_ | refine .yes rfl ?_ | refine .no rfl ?_ | refine .exit rfl ?_)
    refine RunsE.region ?_
    refine OpsE.ev (Ev.move rfl) rfl ?_
    refine OpsE.ev (Ev.assign rfl) rfl ?_
    refine OpsE.nil ?_
    repeat (first | refine .seq ?_ | refine .skip ?_ | refine .block ?_ | refine .inBlock ?_ | refine .yes rfl ?_ | refine .no rfl ?_ | refine .exit rfl ?_)
    exact RunsE.ret1 Tryz.func47 rfl rfl ⟨mc, oc', rfl, hoc'.perm ((changes_perm l cs).symm.map _), H.drop1⟩

end Go.Proofs.YtflfaiakenahlaaGreatDoor
end

section
/-
  The store's functions that change it: settle, Write, Sync, Start; Contains.
-/
namespace Go.Proofs.YtflfaiakenahlaaGreatDoor
open Go.Proofs.YtflfaiakenahlaaGreatDoor.V

theorem index_spec [Strm] (v : Value) (zs : List Int) (x : Int) (hl : zs.length ≤ 9223372036854775807) (w : World) (F : List (Nat × Obj)) (hv : IntsIn .i64 F v zs) (H : SL w F) :
    Does Tryz.prog 94 #[v, .int .i64 x] w fun r w' => (∃ n : Int, r = .int .i64 n ∧ decide (n ≥ 0) = zs.contains x) ∧ SL w' F := by
  obtain ⟨a, c, rfl, hc⟩ := hv.len
  refine Does.intro (args := [_, _]) (e := [(0, _), (1, _)]) Tryz.func94 rfl Tryz.ntmps94 rfl rfl ?_
  repeat (first | refine .seq ?_ | refine .skip ?_ | refine .block ?_ | refine .inBlock ?_ | refine .yes rfl ?_ | refine .no rfl ?_ | refine .exit rfl ?_)
  repeat (first | refine .seq ?_ | refine .skip ?_ | refine .block ?_ | refine .inBlock ?_ | refine .yes rfl ?_ | refine .no rfl ?_ | refine .exit rfl ?_)
  refine RunsE.region ?_
  refine OpsE.ev (Ev.assign rfl) rfl ?_
  refine OpsE.nil ?_
  repeat (first | refine .seq ?_ | refine .skip ?_ | refine .block ?_ | refine .inBlock ?_ | refine .yes rfl ?_ | refine .no rfl ?_ | refine .exit rfl ?_)
  refine RunsE.region ?_
  refine OpsE.ev (Ev.move rfl) rfl ?_
  refine OpsE.ev (Ev.lenSl (d := 3) rfl rfl (by kernel_rfl)) rfl ?_
  refine OpsE.ev (Ev.move rfl) rfl ?_
  refine OpsE.nil ?_
  repeat refine RunsE.seq ?_
  refine RunsE.join (fun _ : Unit => []) (fun _ w => SL w F ∧ zs.contains x = false) (fun next => ?_) ?_
  · refine RunsE.block ?_
    refine RunsE.loop (fun i : Nat => [(0, .slice a zs.length c), (1, .int .i64 x), (7, .int .i64 (zs.length : Int)), (8, .int .i64 (i : Int))])
      (fun i w => i ≤ zs.length ∧ SL w F ∧ ∀ j, j < i → zs[j]? ≠ some x) (fun i => zs.length - i) 0 ⟨rfl, rfl, rfl, rfl, trivial⟩ ⟨by omega, H, fun j h => by omega⟩ ?_
    clear H
    rintro i w ⟨hi, H, hn⟩ nextL
    by_cases h1 : i = zs.length
    ·
      repeat (first | refine .seq ?_ | refine .skip ?_ | refine .block ?_ | refine .inBlock ?_ | refine .yes rfl ?_ | refine .no rfl ?_ | refine .exit rfl ?_)
      refine RunsE.region ?_
      refine OpsE.ev (Ev.lss (r := false) rfl rfl (decide_eq_false (by omega))) rfl ?_
      refine OpsE.nil ?_
      repeat refine RunsE.seq ?_
      refine RunsE.no rfl ?_
      refine RunsE.exit rfl ?_
      refine next () _ _ ⟨H, ?_⟩ trivial
      rw [Bool.eq_false_iff]
      intro hm
      rw [List.contains_iff_mem] at hm
      obtain ⟨j, hj⟩ := List.getElem?_of_mem hm
      refine hn j ?_ hj
      rcases Nat.lt_or_ge j zs.length with h | h
      · omega
      · rw [List.getElem?_eq_none h] at hj; cases hj
    · clear next
      obtain ⟨z, hz⟩ : ∃ z, zs[i]? = some z := ⟨zs[i]'(by omega), by simp [show i < zs.length by omega]⟩
      obtain ⟨b, off, u, rfl, hrd, rfl, _⟩ := hv.at hz
      repeat (first | refine .seq ?_ | refine .skip ?_ | refine .block ?_ | refine .inBlock ?_ | refine .yes rfl ?_ | refine .no rfl ?_ | refine .exit rfl ?_)
      refine RunsE.region ?_
      refine OpsE.ev (Ev.lss (r := true) rfl rfl (decide_eq_true (by omega))) rfl ?_
      refine OpsE.nil ?_
      repeat (first | refine .seq ?_ | refine .skip ?_ | refine .block ?_ | refine .inBlock ?_ | refine .yes rfl ?_ | refine .no rfl ?_ | refine .exit rfl ?_)
      refine RunsE.region ?_
      refine OpsE.ev (Ev.move rfl) rfl ?_
      refine OpsE.ev (Ev.assign rfl) rfl ?_
      refine OpsE.nil ?_
      by_cases h2 : x = z
      ·
        repeat (first | refine .seq ?_ | refine .skip ?_ | refine .block ?_ | refine .inBlock ?_ | refine .yes rfl ?_ | refine .no rfl ?_ | refine .exit rfl ?_)
        refine RunsE.region ?_
        refine OpsE.ev (Ev.move rfl) rfl ?_
        refine OpsE.ev (Ev.move rfl) rfl ?_
        refine OpsE.ev (Ev.move rfl) rfl ?_
        refine OpsE.ev (Ev.iaSl (n := 3) (sz := 1) (m := i) (o := off + i) rfl rfl rfl (by kernel_rfl) (by omega) (by omega)) rfl ?_
        refine OpsE.ev (Ev.load H rfl (by kernel_rfl) hrd) rfl ?_
        refine OpsE.ev (Ev.eql (r := true) rfl rfl (beq_iff_eq.2 h2)) rfl ?_
        refine OpsE.nil ?_
        repeat (first | refine .seq ?_ | refine .skip ?_ | refine .block ?_ | refine .inBlock ?_ | refine .yes rfl ?_ | refine .no rfl ?_ | refine .exit rfl ?_)
        refine RunsE.region ?_
        refine OpsE.ev (Ev.move rfl) rfl ?_
        refine OpsE.ev (Ev.assign rfl) rfl ?_
        refine OpsE.nil ?_
        repeat (first | refine .seq ?_ | refine .skip ?_ | refine .block ?_ | refine .inBlock ?_ | refine .yes rfl ?_ | refine .no rfl ?_ | refine .exit rfl ?_)
        refine RunsE.ret1 Tryz.func94 rfl rfl ⟨⟨_, rfl, ?_⟩, H⟩
        rw [decide_eq_true (by omega)]
        exact (List.contains_iff_mem.2 (by rw [h2]; exact List.mem_of_getElem? hz)).symm
      ·
        repeat (first | refine .seq ?_ | refine .skip ?_ | refine .block ?_ | refine .inBlock ?_ | refine .yes rfl ?_ | refine .no rfl ?_ | refine .exit rfl ?_)
        refine RunsE.region ?_
        refine OpsE.ev (Ev.move rfl) rfl ?_
        refine OpsE.ev (Ev.move rfl) rfl ?_
        refine OpsE.ev (Ev.move rfl) rfl ?_
        refine OpsE.ev (Ev.iaSl (n := 3) (sz := 1) (m := i) (o := off + i) rfl rfl rfl (by kernel_rfl) (by omega) (by omega)) rfl ?_
        refine OpsE.ev (Ev.load H rfl (by kernel_rfl) hrd) rfl ?_
        refine OpsE.ev (Ev.eql (r := false) rfl rfl (beq_eq_false_iff_ne.2 h2)) rfl ?_
        refine OpsE.nil ?_
        repeat refine RunsE.seq ?_
        refine RunsE.no rfl ?_
        repeat (first | refine .seq ?_ | refine .skip ?_ | refine .block ?_ | refine .inBlock ?_ | refine .yes rfl ?_ | refine .no rfl ?_ | refine .exit rfl ?_)
        refine RunsE.region ?_
        refine OpsE.ev (Ev.add rfl rfl) rfl ?_
        refine OpsE.ev (Ev.move rfl) rfl ?_
        refine OpsE.nil ?_
        refine nextL (i + 1) _ _ (by omega) ⟨by omega, H, fun j hj => ?_⟩ ⟨rfl, rfl, rfl, rfl, trivial⟩
        rcases Nat.lt_or_eq_of_le (Nat.le_of_lt_succ hj) with h | h
        · exact hn j h
        · rw [h, hz]; intro he; exact h2 (Option.some.inj he).symm
  · clear H
    rintro _ w ⟨H, hn⟩
    repeat (first | refine .seq ?_ | refine .skip ?_ | refine .block ?_ | refine .inBlock ?_ | refine .yes rfl ?_ | refine .no rfl ?_ | refine .exit rfl ?_)
    refine RunsE.region ?_
    refine OpsE.ev (Ev.assign rfl) rfl ?_
    refine OpsE.nil ?_
    repeat (first | refine .seq ?_ | refine .skip ?_ | refine .block ?_ | refine .inBlock ?_ | refine .yes rfl ?_ | refine .no rfl ?_ | refine .exit rfl ?_)
    exact RunsE.ret1 Tryz.func94 rfl rfl ⟨⟨_, rfl, by rw [hn]; rfl⟩, H⟩

theorem contains_spec [Strm] (v : Value) (zs : List Int) (x : Int) (hl : zs.length ≤ 9223372036854775807) (w : World) (F : List (Nat × Obj)) (hv : IntsIn .i64 F v zs) (H : SL w F) :
    Does Tryz.prog 65 #[v, .int .i64 x] w fun r w' => r = .bool (zs.contains x) ∧ SL w' F := by
  refine Does.intro (args := [_, _]) (e := [(0, _), (1, _)]) Tryz.func65 rfl Tryz.ntmps65 rfl rfl ?_
  repeat (first | refine .seq ?_ | refine .skip ?_ | refine .block ?_ | refine .inBlock ?_ | refine .yes rfl ?_ | refine .no rfl ?_ | refine .exit rfl ?_)
  repeat (first | refine .seq ?_ | refine .skip ?_ | refine .block ?_ | refine .inBlock ?_ | refine .yes rfl ?_ | refine .no rfl ?_ | refine .exit rfl ?_)
  refine RunsE.region ?_
  refine OpsE.ev (Ev.assign rfl) rfl ?_
  refine OpsE.nil ?_
  repeat (first | refine .seq ?_ | refine .skip ?_ | refine .block ?_ | refine .inBlock ?_ | refine .yes rfl ?_ | refine .no rfl ?_ | refine .exit rfl ?_)
  refine RunsE.region ?_
  refine OpsE.ev (Ev.move rfl) rfl ?_
  refine OpsE.ev (Ev.move rfl) rfl ?_
  refine OpsE.ex (Ex.call rfl Tryz.call94 (index_spec v zs x hl w F hv H)) rfl ?_; (try clear H); rintro _ w ⟨⟨n, rfl, hn⟩, H⟩
  refine OpsE.ev (Ev.geq (r := zs.contains x) rfl rfl hn) rfl ?_
  refine OpsE.ev (Ev.assign rfl) rfl ?_
  refine OpsE.nil ?_
  repeat (first | refine .seq ?_ | refine .skip ?_ | refine .block ?_ | refine .inBlock ?_ | refine .yes rfl ?_ | refine .no rfl ?_ | refine .exit rfl ?_)
  exact RunsE.ret1 Tryz.func65 rfl rfl ⟨rfl, H⟩

theorem startkept_spec [Strm] (v : Value) (zs : List Int) (x : Int) (c : Nat) (hl : zs.length ≤ 9223372036854775807) (w : World) (F : List (Nat × Obj)) (hv : IntsIn .i64 F v zs) (hc : Rd F ⟨c, 0, none⟩ v) (H : SL w F) :
    Does Tryz.prog 64 #[.int .i64 x, .pointer (some ⟨c, 0, none⟩)] w fun r w' => r = .bool (zs.contains x) ∧ SL w' F := by
  refine Does.intro (args := [_, _]) (e := [(0, _), (1, _)]) Tryz.func64 rfl Tryz.ntmps64 rfl rfl ?_
  repeat (first | refine .seq ?_ | refine .skip ?_ | refine .block ?_ | refine .inBlock ?_ | refine .yes rfl ?_ | refine .no rfl ?_ | refine .exit rfl ?_)
  repeat (first | refine .seq ?_ | refine .skip ?_ | refine .block ?_ | refine .inBlock ?_ | refine .yes rfl ?_ | refine .no rfl ?_ | refine .exit rfl ?_)
  refine RunsE.region ?_
  refine OpsE.ev (Ev.assign rfl) rfl ?_
  refine OpsE.nil ?_
  repeat (first | refine .seq ?_ | refine .skip ?_ | refine .block ?_ | refine .inBlock ?_ | refine .yes rfl ?_ | refine .no rfl ?_ | refine .exit rfl ?_)
  refine RunsE.region ?_
  refine OpsE.ev (Ev.load H rfl (by kernel_rfl) hc) rfl ?_
  refine OpsE.ev (Ev.move rfl) rfl ?_
  refine OpsE.ex (Ex.call rfl Tryz.call65 (contains_spec v zs x hl w F hv H)) rfl ?_; (try clear H); rintro _ w ⟨rfl, H⟩
  refine OpsE.ev (Ev.assign rfl) rfl ?_
  refine OpsE.nil ?_
  repeat (first | refine .seq ?_ | refine .skip ?_ | refine .block ?_ | refine .inBlock ?_ | refine .yes rfl ?_ | refine .no rfl ?_ | refine .exit rfl ?_)
  exact RunsE.ret1 Tryz.func64 rfl rfl ⟨rfl, H⟩

theorem synckept_spec [Strm] (x : Value) (w : World) (F : List (Nat × Obj)) (H : SL w F) : Does Tryz.prog 102 #[x] w fun r w' => r = .bool true ∧ SL w' F := by
  refine Does.intro (args := [_]) (e := [(0, _)]) Tryz.func102 rfl Tryz.ntmps102 rfl rfl ?_
  repeat (first | refine .seq ?_ | refine .skip ?_ | refine .block ?_ | refine .inBlock ?_ | refine .yes rfl ?_ | refine .no rfl ?_ | refine .exit rfl ?_)
  repeat (first | refine .seq ?_ | refine .skip ?_ | refine .block ?_ | refine .inBlock ?_ | refine .yes rfl ?_ | refine .no rfl ?_ | refine .exit rfl ?_)
  refine RunsE.region ?_
  refine OpsE.ev (Ev.assign rfl) rfl ?_
  refine OpsE.nil ?_
  repeat (first | refine .seq ?_ | refine .skip ?_ | refine .block ?_ | refine .inBlock ?_ | refine .yes rfl ?_ | refine .no rfl ?_ | refine .exit rfl ?_)
  refine RunsE.region ?_
  refine OpsE.ev (Ev.assign rfl) rfl ?_
  refine OpsE.nil ?_
  repeat (first | refine .seq ?_ | refine .skip ?_ | refine .block ?_ | refine .inBlock ?_ | refine .yes rfl ?_ | refine .no rfl ?_ | refine .exit rfl ?_)
  exact RunsE.ret1 Tryz.func102 rfl rfl ⟨rfl, H⟩

set_option maxHeartbeats 1000000 in
theorem settle_spec [Strm] (s : St) (kept : Nat → Bool) (b : Nat) (A : List (Nat × Obj)) (kf : FuncId) (cap : Array Value) (hQl : s.Q.length ≤ 1000000) (w : World) (F : List (Nat × Obj)) (hA : HoldS b s A)
    (eg : ∀ args w, (callFunc kf args).run Tryz.prog w = .ok (.enter kf args) w)
    (hk : ∀ i, i < s.Q.length → ∀ w A', SL w (A' ++ F) → Does Tryz.prog kf (#[] ++ [Value.int .i64 (i : Int)].toArray ++ cap) w fun r w' => r = .bool (kept i) ∧ SL w' (A' ++ F)) (H : SL w (A ++ F)) :
    Does Tryz.prog 63 #[.pointer (some ⟨b, 0, none⟩), .func (.func kf) #[] cap] w fun r w' => ∃ A', r = .tuple #[] ∧ HoldS b (s.settle kept) A' ∧ SL w' (A' ++ F) := by
  obtain ⟨rb, pv, qv, ql, Bq, D, hp, hq, hQ, ok⟩ := hA
  obtain ⟨aq, cq, rfl, hcq⟩ := hq.leCap
  rw [List.cons_append] at H
  have hql := hQ.len
  refine Does.intro (args := [_, _]) (e := [(0, _), (1, _)]) Tryz.func63 rfl Tryz.ntmps63 rfl rfl ?_
  repeat (first | refine .seq ?_ | refine .skip ?_ | refine .block ?_ | refine .inBlock ?_ | refine .yes rfl ?_ | refine .no rfl ?_ | refine .exit rfl ?_)
  repeat (first | refine .seq ?_ | refine .skip ?_ | refine .block ?_ | refine .inBlock ?_ | refine .yes rfl ?_ | refine .no rfl ?_ | refine .exit rfl ?_)
  refine RunsE.region ?_
  refine OpsE.ev (Ev.move rfl) rfl ?_
  refine OpsE.ev (Ev.nilCheck rfl) rfl ?_
  refine OpsE.ev (Ev.fieldAddr (o := 1) rfl (by kernel_rfl)) rfl ?_
  refine OpsE.ev (Ev.load H rfl (by kernel_rfl) (by first | exact Rd.mk m0 rfl | exact Rd.mk m1 rfl | exact Rd.mk m2 rfl | exact Rd.mk m3 rfl | assumption)) rfl ?_
  refine OpsE.ev (Ev.lenSl (d := 79) rfl rfl (by kernel_rfl)) rfl ?_
  refine OpsE.ev (Ev.move rfl) rfl ?_
  refine OpsE.nil ?_
  repeat refine RunsE.seq ?_
  refine RunsE.join (fun _ : Unit => [(0, .pointer (some ⟨b, 0, none⟩))])
    (fun _ w => ∃ pv', PagesIn D pv' (setl kept s.Q s.P s.Q.length) ∧ SL w ((b, .cells #[.slice (some ⟨rb, 0, none⟩) s.P.length s.P.length, .slice aq ql.length cq, .int .i64 (s.left : Int), .bool s.armed, .bool s.down] 75 (0, 0)) :: (rb, .cells pv'.toArray 29 (0, 0)) :: ((Bq ++ D) ++ F))) (fun next => ?_) ?_
  · refine RunsE.block ?_
    refine RunsE.loop (fun i : Nat × List Value => [(0, .pointer (some ⟨b, 0, none⟩)), (1, .func (.func kf) #[] cap), (9, .slice aq ql.length cq), (10, .int .i64 (ql.length : Int)), (11, .int .i64 (i.1 : Int))])
      (fun i w => i.1 ≤ ql.length ∧ PagesIn D i.2 (setl kept s.Q s.P i.1) ∧ SL w ((b, .cells #[.slice (some ⟨rb, 0, none⟩) s.P.length s.P.length, .slice aq ql.length cq, .int .i64 (s.left : Int), .bool s.armed, .bool s.down] 75 (0, 0)) :: (rb, .cells i.2.toArray 29 (0, 0)) :: ((Bq ++ D) ++ F)))
      (fun i => ql.length - i.1) (0, pv) ⟨rfl, rfl, rfl, rfl, rfl, trivial⟩ ⟨by omega, hp, H⟩ ?_
    clear H hp pv
    rintro ⟨i, pv⟩ w ⟨hi, hp, H⟩ nextL
    simp only at hi hp H
    by_cases h1 : i = ql.length
    ·
      repeat (first | refine .seq ?_ | refine .skip ?_ | refine .block ?_ | refine .inBlock ?_ | refine .yes rfl ?_ | refine .no rfl ?_ | refine .exit rfl ?_)
      refine RunsE.region ?_
      refine OpsE.ev (Ev.lss (r := false) rfl rfl (decide_eq_false (by simp only; omega))) rfl ?_
      refine OpsE.nil ?_
      repeat refine RunsE.seq ?_
      refine RunsE.no rfl ?_
      refine RunsE.exit rfl ?_
      rw [h1, hql] at hp
      exact next () _ _ ⟨pv, hp, H⟩ ⟨rfl, trivial⟩
    · clear next
      obtain ⟨q, hq1⟩ : ∃ q, ql[i]? = some q := ⟨ql[i]'(by omega), by simp [show i < ql.length by omega]⟩
      obtain ⟨hq2, hq3⟩ := hQ.el i q hq1
      have hqm : s.Q.getD i (0, []) ∈ s.Q := getD_mem (by omega)
      have hqp := ok.qpg _ hqm
      rw [← hq2] at hqp
      have hpl := hp.len
      rw [setl_len] at hpl
      obtain ⟨bq, cap', sp, fr, e1, rfl, hb1, hb2, hb3⟩ := hq.shape (by omega)
      cases e1
      repeat (first | refine .seq ?_ | refine .skip ?_ | refine .block ?_ | refine .inBlock ?_ | refine .yes rfl ?_ | refine .no rfl ?_ | refine .exit rfl ?_)
      refine RunsE.region ?_
      refine OpsE.ev (Ev.lss (r := true) rfl rfl (decide_eq_true (by simp only; omega))) rfl ?_
      refine OpsE.nil ?_
      repeat (first | refine .seq ?_ | refine .skip ?_ | refine .block ?_ | refine .inBlock ?_ | refine .yes rfl ?_ | refine .no rfl ?_ | refine .exit rfl ?_)
      refine RunsE.region ?_
      refine OpsE.ev (Ev.move rfl) rfl ?_
      refine OpsE.ev (Ev.iaSl (n := 79) (sz := 2) (m := i) (o := i * 2) rfl rfl rfl (by kernel_rfl) (by omega) (Nat.zero_add _)) rfl ?_
      refine OpsE.ev (Ev.loadPart (n := 2) (vs := gQ q) (cs := ql.flatMap gQ ++ sp) H rfl (by kernel_rfl) rfl m2 (queue_at hq1)) rfl ?_
      refine OpsE.ex (Ex.alloc (zv := .agg #[.int .i64 0, .slice none 0 0]) H (by kernel_rfl)) rfl ?_; (try clear H); rintro _ w ⟨b5, rfl, H⟩; simp only [Value.cells] at H
      refine OpsE.ev (Ev.assign rfl) rfl ?_
      refine OpsE.exn (Ex.storeBlk (n := 2) H rfl rfl (by kernel_rfl) (by first | rfl | simp) (by simp [Value.oneCell']) u0 (by first | rfl | simp) (Thaw.zero _ _)) ?_; (try clear H); intro _ w H
      refine OpsE.nil ?_
      replace H : SL w ((((b5, Obj.cells (gQ q).toArray 79 (0, 0)) :: (b, .cells #[.slice (some ⟨rb, 0, none⟩) s.P.length s.P.length, .slice (some ⟨bq, 0, none⟩) ql.length cq, .int .i64 (s.left : Int), .bool s.armed, .bool s.down] 75 (0, 0)) :: (rb, .cells pv.toArray 29 (0, 0)) :: ([(bq, .cells (ql.flatMap gQ ++ sp).toArray 79 fr)] ++ D))) ++ F) := H
      repeat (first | refine .seq ?_ | refine .skip ?_ | refine .block ?_ | refine .inBlock ?_ | refine .yes rfl ?_ | refine .no rfl ?_ | refine .exit rfl ?_)
      refine RunsE.region ?_
      refine OpsE.ev (Ev.move rfl) rfl ?_
      refine OpsE.ev (Ev.move rfl) rfl ?_
      refine OpsE.ex (Ex.callv rfl rfl eg (hk i (by omega) w _ H)) rfl ?_; (try clear H); rintro _ w ⟨rfl, H⟩
      refine OpsE.nil ?_
      by_cases hki : kept i = true
      · repeat refine RunsE.seq ?_
        refine RunsE.yes (by rw [hki]; rfl) ?_
        repeat (first | refine .seq ?_ | refine .skip ?_ | refine .block ?_ | refine .inBlock ?_ | refine .yes rfl ?_ | refine .no rfl ?_ | refine .exit rfl ?_)
        refine RunsE.drawS H [9] (by kernel_rfl) ?_; (try clear H); intro w H
        refine OpsD.take 0 rfl (by kernel_rfl) H (fun w H => Ev.move rfl) rfl ?_
        refine OpsD.take 1 rfl (by kernel_rfl) H (fun w H => Ev.nilCheck rfl) rfl ?_
        refine OpsD.take 2 rfl (by kernel_rfl) H (fun w H => Ev.fieldAddr (o := 0) rfl (by kernel_rfl)) rfl ?_
        refine OpsD.take 3 rfl (by kernel_rfl) H (fun w H => Ev.load H rfl (by kernel_rfl) (by first | exact Rd.mk m0 rfl | exact Rd.mk m1 rfl | exact Rd.mk m2 rfl | exact Rd.mk m3 rfl | assumption)) rfl ?_
        refine OpsD.take 4 rfl (by kernel_rfl) H (fun w H => Ev.fieldAddr (o := 0) rfl (by kernel_rfl)) rfl ?_
        refine OpsD.take 5 rfl (by kernel_rfl) H (fun w H => Ev.load H rfl (by kernel_rfl) (by first | exact Rd.mk m0 rfl | exact Rd.mk m1 rfl | exact Rd.mk m2 rfl | exact Rd.mk m3 rfl | assumption)) rfl ?_
        refine OpsD.take 6 rfl (by kernel_rfl) H (fun w H => Ev.fieldAddr (o := 1) rfl (by kernel_rfl)) rfl ?_
        refine OpsD.take 7 rfl (by kernel_rfl) H (fun w H => Ev.load H rfl (by kernel_rfl) (by first | exact Rd.mk m0 rfl | exact Rd.mk m1 rfl | exact Rd.mk m2 rfl | exact Rd.mk m3 rfl | assumption)) rfl ?_
        refine OpsD.take 8 rfl (by kernel_rfl) H (fun w H => Ev.iaSl (n := 29) (sz := 1) (m := q.1) rfl rfl rfl (by kernel_rfl) (by omega)) rfl ?_
        refine OpsD.one 9 (by kernel_rfl) (StepD.exnT rfl rfl (Ex.store1 (cs' := (pv.set q.1 (.slice q.2.1 q.2.2.1 q.2.2.2)).toArray) H rfl rfl (by kernel_rfl) rfl u2 (by simp; omega) (Thaw.zero _ _) (by simp)) ?_); (try clear H); intro _ w H
        refine OpsD.done (by kernel_rfl) ?_
        repeat (first | refine .seq ?_ | refine .skip ?_ | refine .block ?_ | refine .inBlock ?_ | refine .yes rfl ?_ | refine .no rfl ?_ | refine .exit rfl ?_)
        refine RunsE.region ?_
        refine OpsE.ev (Ev.add rfl rfl) rfl ?_
        refine OpsE.ev (Ev.move rfl) rfl ?_
        refine OpsE.nil ?_
        refine nextL (i + 1, pv.set q.1 (.slice q.2.1 q.2.2.1 q.2.2.2)) _ _ (by simp only; omega) ⟨by simp only; omega, ?_, H.drop⟩ ⟨rfl, rfl, rfl, rfl, rfl, trivial⟩
        simp only [setl, hki, if_true]
        rw [← hq2]
        exact hp.set hq3 (by rw [setl_len]; exact hqp)
      · repeat refine RunsE.seq ?_
        refine RunsE.no (by rw [Bool.not_eq_true _ |>.mp hki]; rfl) ?_
        repeat (first | refine .seq ?_ | refine .skip ?_ | refine .block ?_ | refine .inBlock ?_ | refine .yes rfl ?_ | refine .no rfl ?_ | refine .exit rfl ?_)
        refine RunsE.region ?_
        refine OpsE.ev (Ev.add rfl rfl) rfl ?_
        refine OpsE.ev (Ev.move rfl) rfl ?_
        refine OpsE.nil ?_
        refine nextL (i + 1, pv) _ _ (by simp only; omega) ⟨by simp only; omega, ?_, H.drop⟩ ⟨rfl, rfl, rfl, rfl, rfl, trivial⟩
        simp only [setl, hki]
        exact hp
  · clear H hp pv
    rintro _ w ⟨pv, hp, H⟩
    have hpl := hp.len
    rw [setl_len] at hpl
    repeat (first | refine .seq ?_ | refine .skip ?_ | refine .block ?_ | refine .inBlock ?_ | refine .yes rfl ?_ | refine .no rfl ?_ | refine .exit rfl ?_)
    refine RunsE.region ?_
    refine OpsE.ev (Ev.move rfl) rfl ?_
    refine OpsE.ev (Ev.nilCheck rfl) rfl ?_
    refine OpsE.ev (Ev.fieldAddr (o := 1) rfl (by kernel_rfl)) rfl ?_
    refine OpsE.ev (Ev.load H rfl (by kernel_rfl) (by first | exact Rd.mk m0 rfl | exact Rd.mk m1 rfl | exact Rd.mk m2 rfl | exact Rd.mk m3 rfl | assumption)) rfl ?_
    refine OpsE.exn (Ex.clear (zv := .agg #[.int .i64 0, .slice none 0 0]) H.pull2 rfl hq (fun _ => rfl) (by kernel_rfl) (by kernel_rfl) rfl (by simp [Value.oneCell', Value.cells])) ?_; (try clear H); rintro _ w ⟨_, B', hq', H⟩; replace H := H.push2
    refine OpsE.nil ?_
    repeat (first | refine .seq ?_ | refine .skip ?_ | refine .block ?_ | refine .inBlock ?_ | refine .yes rfl ?_ | refine .no rfl ?_ | refine .exit rfl ?_)
    refine RunsE.region ?_
    refine OpsE.ev (Ev.move rfl) rfl ?_
    refine OpsE.ev (Ev.move rfl) rfl ?_
    refine OpsE.ev (Ev.nilCheck rfl) rfl ?_
    refine OpsE.ev (Ev.fieldAddr (o := 1) rfl (by kernel_rfl)) rfl ?_
    refine OpsE.ev (Ev.load H rfl (by kernel_rfl) (by first | exact Rd.mk m0 rfl | exact Rd.mk m1 rfl | exact Rd.mk m2 rfl | exact Rd.mk m3 rfl | assumption)) rfl ?_
    refine OpsE.ev (Ev.slSl0 (sz := 2) (el := 79) rfl (by kernel_rfl) hcq) rfl ?_
    refine OpsE.ev (Ev.nilCheck rfl) rfl ?_
    refine OpsE.ev (Ev.fieldAddr (o := 1) rfl (by kernel_rfl)) rfl ?_
    refine OpsE.exn (Ex.store1 H rfl rfl (by kernel_rfl) rfl u0 (by simp) (Thaw.zero _ _) rfl) ?_; (try clear H); intro _ w H
    refine OpsE.nil ?_
    refine RunsE.end0 Tryz.func63 rfl ⟨_, rfl, .mk rb pv (cut0 2 (.slice aq ql.length cq)) [] B' D hp hq' ⟨rfl, fun i q h => by simp at h⟩ (St.settle_ok ok kept), ?_⟩
    simp only [St.settle, setl_len]
    exact H

end Go.Proofs.YtflfaiakenahlaaGreatDoor
end
