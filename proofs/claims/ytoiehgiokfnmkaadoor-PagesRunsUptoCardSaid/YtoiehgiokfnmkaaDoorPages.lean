/-
  The store of pages: what it is (plain lists), and how it lies in memory.
-/
import Derived.Test.YtoiehgiokfnmkaaDoorVFun
import Derived.Test.YtoiehgiokfnmkaaDoorVRange
import Derived.Test.YtoiehgiokfnmkaaDoorProg
namespace Go.Proofs.YtoiehgiokfnmkaaDoor.V

/-- A store: safe pages, the loose writes, the steps that are left, armed, down. -/
structure St where
  P : List (List UInt8)
  Q : List (Nat × List UInt8)
  left : Nat
  armed : Bool
  down : Bool

def St.new (n : Nat) : St := ⟨List.replicate n [], [], 0, false, false⟩
def St.has (s : St) (page : Int) : Bool := decide (0 ≤ page) && decide (page < s.P.length)
def St.step (s : St) : St × Nat := if s.armed = false then (s, 0) else if s.left = 0 then ({ s with down := true, armed := false }, 13) else ({ s with left := s.left - 1 }, 0)
def St.push (s : St) (page : Nat) (bs : List UInt8) : St := { s with Q := s.Q ++ [(page, bs)] }
def St.write (s : St) (page : Int) (bs : List UInt8) : St × Nat := if s.has page = false then (s, 1) else if 4096 < bs.length then (s, 2) else if s.down = true then (s, 13) else (s.push page.toNat bs).step
/-- The pages behind the first n loose writes, of which 'kept' says which are done. -/
def setl (kept : Nat → Bool) (Q : List (Nat × List UInt8)) (P : List (List UInt8)) : Nat → List (List UInt8)
  | 0 => P
  | i + 1 => if kept i then (setl kept Q P i).set (Q.getD i (0, [])).1 (Q.getD i (0, [])).2 else setl kept Q P i
def St.settle (s : St) (kept : Nat → Bool) : St := { s with P := setl kept s.Q s.P s.Q.length, Q := [] }
def St.sync (s : St) : St × Nat := if s.down = true then (s, 13) else if s.step.2 = 0 then (s.step.1.settle fun _ => true, 0) else s.step
def St.start (s : St) (kept : Nat → Bool) : St := { s.settle kept with down := false, armed := false }
def St.arm (s : St) (n : Nat) : St := { s with left := n, armed := true }
/-- The last of the first k writes that is one of page p. -/
def lastW (Q : List (Nat × List UInt8)) (p : Nat) : Nat → Option (List UInt8)
  | 0 => none
  | k + 1 => if (Q.getD k (0, [])).1 = p then some (Q.getD k (0, [])).2 else lastW Q p k
def St.page (s : St) (p : Nat) : List UInt8 := (lastW s.Q p s.Q.length).getD (s.P.getD p [])
/-- What Read hands back: bytes, the error's number. -/
def St.read (s : St) (page : Int) : List UInt8 × Nat := if s.has page = false then ([], 1) else if s.down = true then ([], 13) else (s.page page.toNat, 0)

/-! ### In memory -/

abbrev QE := Nat × Option Addr × Nat × Nat
abbrev gQ (q : QE) : List Value := [.int .i64 (q.1 : Int), .slice q.2.1 q.2.2.1 q.2.2.2]

structure PagesIn (D : List (Nat × Obj)) (pv : List Value) (P : List (List UInt8)) : Prop where
  len : pv.length = P.length
  el : ∀ (i : Nat) v, pv[i]? = some v → Inp D v (P.getD i [])

structure QueueIn (D : List (Nat × Obj)) (ql : List QE) (Q : List (Nat × List UInt8)) : Prop where
  len : ql.length = Q.length
  el : ∀ (i : Nat) q, ql[i]? = some q → q.1 = (Q.getD i (0, [])).1 ∧ Inp D (.slice q.2.1 q.2.2.1 q.2.2.2) (Q.getD i (0, [])).2

structure St.Ok (s : St) : Prop where
  pages : s.P.length ≤ 4096
  psz : ∀ p ∈ s.P, p.length ≤ 4096
  qpg : ∀ q ∈ s.Q, q.1 < s.P.length
  qsz : ∀ q ∈ s.Q, q.2.length ≤ 4096
  left : s.left ≤ 9223372036854775807

/-- The store s, at the block b: its blocks. -/
inductive Hold (TS TP TQ : TypeId) (b : Nat) (s : St) : List (Nat × Obj) → Prop where
  | mk (rb : Nat) (pv : List Value) (qv : Value) (ql : List QE) (Bq D : List (Nat × Obj)) (hp : PagesIn D pv s.P) (hq : Slc gQ 2 TQ qv ql Bq) (hQ : QueueIn D ql s.Q) (ok : s.Ok) :
    Hold TS TP TQ b s ((b, .cells #[.slice (some ⟨rb, 0, none⟩) s.P.length s.P.length, qv, .int .i64 (s.left : Int), .bool s.armed, .bool s.down] TS (0, 0)) :: (rb, .cells pv.toArray TP (0, 0)) :: (Bq ++ D))

theorem getD_mem {α : Type} {l : List α} {i : Nat} {d : α} (h : i < l.length) : l.getD i d ∈ l := by
  rw [List.getD_eq_getElem?_getD, List.getElem?_eq_getElem h]
  exact List.getElem_mem h

theorem setl_len {kept : Nat → Bool} {Q : List (Nat × List UInt8)} {P : List (List UInt8)} : ∀ i, (setl kept Q P i).length = P.length
  | 0 => rfl
  | i + 1 => by
    unfold setl
    split
    · rw [List.length_set, setl_len i]
    · exact setl_len i

theorem setl_sz {kept : Nat → Bool} {Q : List (Nat × List UInt8)} {P : List (List UInt8)} (hP : ∀ p ∈ P, p.length ≤ 4096) (hQ : ∀ q ∈ Q, q.2.length ≤ 4096) : ∀ i, i ≤ Q.length → ∀ p ∈ setl kept Q P i, p.length ≤ 4096
  | 0, _, p, hp => hP p hp
  | i + 1, hi, p, hp => by
    unfold setl at hp
    split at hp
    · rcases List.mem_or_eq_of_mem_set hp with h | h
      · exact setl_sz hP hQ i (by omega) p h
      · subst h; exact hQ _ (getD_mem (by omega))
    · exact setl_sz hP hQ i (by omega) p hp

theorem St.step_ok {s : St} (h : s.Ok) : s.step.1.Ok := by
  unfold St.step
  split
  · exact h
  split
  · exact ⟨h.1, h.2, h.3, h.4, h.5⟩
  · exact ⟨h.1, h.2, h.3, h.4, by have := h.5; simp only; omega⟩

theorem St.push_ok {s : St} (h : s.Ok) {page : Nat} {bs : List UInt8} (h1 : page < s.P.length) (h2 : bs.length ≤ 4096) : (s.push page bs).Ok := by
  refine ⟨h.1, h.2, fun q hq => ?_, fun q hq => ?_, h.5⟩
  · rcases List.mem_append.1 hq with hq | hq
    · exact h.3 q hq
    · obtain rfl := List.mem_singleton.1 hq; exact h1
  · rcases List.mem_append.1 hq with hq | hq
    · exact h.4 q hq
    · obtain rfl := List.mem_singleton.1 hq; exact h2

theorem St.settle_ok {s : St} (h : s.Ok) (kept : Nat → Bool) : (s.settle kept).Ok :=
  ⟨by simp only [St.settle, setl_len]; exact h.1, setl_sz h.2 h.4 _ (Nat.le_refl _), by simp [St.settle], by simp [St.settle], h.5⟩

theorem St.new_ok {n : Nat} (h : n ≤ 4096) : (St.new n).Ok :=
  ⟨by simpa [St.new] using h, by intro p hp; simp only [St.new] at hp; rw [(List.mem_replicate.1 hp).2]; simp, by simp [St.new], by simp [St.new], by simp [St.new]⟩

/-! ### Errors -/

/-- An error, by its number; the type T. -/
def ErrV (T : TypeId) : Nat → Value
  | 0 => .nilIface
  | n + 1 => .iface T (.int .i64 ((n + 1 : Nat) : Int))

theorem QueueIn.sub {D D' : List (Nat × Obj)} {ql : List QE} {Q : List (Nat × List UInt8)} (h : QueueIn D ql Q) (hs : ∀ p ∈ D, p ∈ D') : QueueIn D' ql Q :=
  ⟨h.len, fun i q hi => ⟨(h.el i q hi).1, (h.el i q hi).2.sub hs⟩⟩

theorem PagesIn.sub {D D' : List (Nat × Obj)} {pv : List Value} {P : List (List UInt8)} (h : PagesIn D pv P) (hs : ∀ p ∈ D, p ∈ D') : PagesIn D' pv P :=
  ⟨h.len, fun i v hi => (h.el i v hi).sub hs⟩

theorem QueueIn.push {D : List (Nat × Obj)} {ql : List QE} {Q : List (Nat × List UInt8)} (h : QueueIn D ql Q) {q : QE} {bs : List UInt8} (hb : Inp D (.slice q.2.1 q.2.2.1 q.2.2.2) bs) : QueueIn D (ql ++ [q]) (Q ++ [(q.1, bs)]) := by
  refine ⟨by simp [h.len], fun i q' hi => ?_⟩
  rcases Nat.lt_or_ge i ql.length with hlt | hge
  · rw [List.getElem?_append_left hlt] at hi
    have := h.el i q' hi
    rw [h.len] at hlt
    simpa [List.getD_eq_getElem?_getD, List.getElem?_append_left hlt] using this
  · rw [List.getElem?_append_right hge] at hi
    have hi0 : i - ql.length = 0 := by
      rcases Nat.eq_zero_or_pos (i - ql.length) with h | h
      · exact h
      · rw [List.getElem?_eq_none (by simp; omega)] at hi; cases hi
    rw [hi0] at hi
    simp at hi
    subst hi
    have hil : i = Q.length := by have := h.len; omega
    subst hil
    simpa [List.getD_eq_getElem?_getD] using hb

theorem PagesIn.set {D : List (Nat × Obj)} {pv : List Value} {P : List (List UInt8)} (h : PagesIn D pv P) {p : Nat} {v : Value} {bs : List UInt8} (hv : Inp D v bs) (hp : p < P.length) : PagesIn D (pv.set p v) (P.set p bs) := by
  refine ⟨by simp [h.len], fun i u hi => ?_⟩
  have hpl : p < pv.length := by rw [h.len]; exact hp
  by_cases hip : p = i
  · subst hip
    rw [List.getElem?_set_self hpl] at hi
    cases hi
    simpa [List.getD_eq_getElem?_getD, hp] using hv
  · rw [List.getElem?_set_ne hip] at hi
    have := h.el i u hi
    simpa [List.getD_eq_getElem?_getD, List.getElem?_set_ne hip] using this

section
variable {w : World} {x y : Nat × Obj} {B Bq D F : List (Nat × Obj)}
theorem SL.pull2 [Strm] (h : SL w (x :: y :: ((B ++ D) ++ F))) : SL w (B ++ (x :: y :: (D ++ F))) := h.perm (by
  rw [List.append_assoc]
  exact List.perm_middle.trans (List.Perm.cons _ List.perm_middle))
theorem SL.push2 [Strm] (h : SL w (B ++ (x :: y :: (D ++ F)))) : SL w (x :: y :: ((B ++ D) ++ F)) := h.perm (by
  rw [List.append_assoc]
  exact (List.perm_middle.trans (List.Perm.cons _ List.perm_middle)).symm)
theorem SL.unmid2 [Strm] (h : SL w (B ++ (x :: y :: F))) : SL w (x :: y :: (B ++ F)) := h.perm (List.perm_middle.trans (List.Perm.cons _ List.perm_middle)).symm
theorem SL.unmid3 [Strm] {z : Nat × Obj} (h : SL w (B ++ (x :: y :: z :: F))) : SL w (x :: y :: z :: (B ++ F)) :=
  h.perm (List.perm_middle.trans (List.Perm.cons _ (List.perm_middle.trans (List.Perm.cons _ List.perm_middle)))).symm
theorem SL.pullW [Strm] (h : SL w (B ++ (x :: y :: ((Bq ++ D) ++ F)))) : SL w (Bq ++ (x :: y :: ((B ++ D) ++ F))) := h.perm (by
  refine (List.perm_middle.trans (List.Perm.cons _ List.perm_middle)).trans (List.Perm.trans ?_ (List.perm_middle.trans (List.Perm.cons _ List.perm_middle)).symm)
  refine List.Perm.cons _ (List.Perm.cons _ ?_)
  simp only [List.append_assoc]
  rw [← List.append_assoc Bq, ← List.append_assoc B]
  exact List.perm_append_comm.append_right _)
end

theorem queue_at {ql : List QE} {sp : List Value} {i : Nat} {q : QE} (hi : ql[i]? = some q) : ∀ (j : Nat) v, (gQ q)[j]? = some v → (ql.flatMap gQ ++ sp)[i * 2 + j]? = some v := fun j v hj => by
  have hlt : i < ql.length := by
    rcases Nat.lt_or_ge i ql.length with h | h
    · exact h
    · rw [List.getElem?_eq_none h] at hi; cases hi
  have hj2 : j < 2 := by
    rcases Nat.lt_or_ge j 2 with h | h
    · exact h
    · rw [List.getElem?_eq_none (by simpa using h)] at hj; cases hj
  have hl := flatMap_length (g := gQ) (sz := 2) (fun _ => rfl) ql
  rw [List.getElem?_append_left (by rw [hl]; omega), flatMap_get (g := gQ) (sz := 2) (fun _ => rfl) ql i j q hi hj2]
  exact hj

end Go.Proofs.YtoiehgiokfnmkaaDoor.V
