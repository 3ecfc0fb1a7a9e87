/-
  The engine: operations that change memory, and calls.
-/
import Derived.Test.YtniihnncgblocaaDoorVMem
namespace Go.Proofs.YtniihnncgblocaaDoor.V

/-- vs, laid into cs from off on. -/
def putAt (cs : Array Value) (off : Nat) : List Value → Array Value
  | [] => cs
  | v :: r => putAt (cs.setIfInBounds off v) (off + 1) r

theorem putAt_size (vs : List Value) : ∀ (cs : Array Value) (off : Nat), (putAt cs off vs).size = cs.size := by
  induction vs with
  | nil => intro cs off; rfl
  | cons v r ih => intro cs off; simp [putAt, ih]

theorem putAt_get (vs : List Value) : ∀ (cs : Array Value) (off i : Nat), off + vs.length ≤ cs.size →
    (putAt cs off vs)[i]? = if off ≤ i ∧ i < off + vs.length then vs[i - off]? else cs[i]? := by
  induction vs with
  | nil =>
    intro cs off i _
    have : ¬ (off ≤ i ∧ i < off + 0) := by omega
    simp only [putAt, List.length_nil, if_neg this]
  | cons v r ih =>
    intro cs off i h
    simp only [List.length_cons] at h
    rw [putAt, ih _ _ _ (by simp; omega)]
    by_cases h1 : off = i
    · subst h1
      rw [if_neg (by omega), if_pos (by simp)]
      have : off < cs.size := by omega
      simp [this]
    · by_cases h2 : off + 1 ≤ i ∧ i < off + 1 + r.length
      · rw [if_pos h2, if_pos (by simp; omega)]
        have : i - off = (i - (off + 1)) + 1 := by omega
        rw [this]; simp
      · rw [if_neg h2, if_neg (by simp; omega)]
        simp [Array.getElem?_setIfInBounds_ne h1]

/-- A whole row, written over. -/
theorem putAt_all {cs : Array Value} {vs : List Value} (h : vs.length = cs.size) : putAt cs 0 vs = vs.toArray := by
  apply Array.ext_getElem?
  intro i
  rw [putAt_get _ _ _ _ (by omega)]
  by_cases hi : i < vs.length
  · simp [hi]
  · rw [if_neg (by omega)]
    rw [Array.getElem?_eq_none (by omega), Array.getElem?_eq_none (by simp; omega)]

theorem putAt_append {pre mid post : List Value} {vs : List Value} {off : Nat} (ho : pre.length = off) (h : vs.length = mid.length) :
    putAt (pre ++ mid ++ post).toArray off vs = (pre ++ vs ++ post).toArray := by
  subst ho
  apply Array.ext_getElem?
  intro i
  rw [putAt_get _ _ _ _ (by simp; omega)]
  simp only [List.getElem?_toArray]
  by_cases h1 : i < pre.length
  · rw [if_neg (by omega)]
    simp [List.getElem?_append, h1]
  · by_cases h2 : i < pre.length + vs.length
    · have h3 : i - pre.length < vs.length := by omega
      rw [if_pos (by omega)]
      simp only [List.append_assoc]
      rw [List.getElem?_append_right (by omega), List.getElem?_append_left h3]
    · have h3 : ¬ i - pre.length < mid.length := by omega
      rw [if_neg (by omega)]
      simp only [List.append_assoc]
      rw [List.getElem?_append_right (by omega), List.getElem?_append_right (by omega), List.getElem?_append_right (by omega), List.getElem?_append_right (by omega), h]

section
variable {P : Program} {w : World} {e : Env} {ty t : TypeId} {x y z : Operand} {v u : Value} {L L' : List (Nat × Obj)}

theorem run_storeCells {b : Nat} {T : TypeId} {fr : Nat × Nat} (vs : List Value) (hone : ∀ v ∈ vs, v.oneCell' = true) : ∀ (w : World) (off i : Nat) (cs : Array Value),
    w.heap[b]? = some (.cells cs T fr) → off + i + vs.length ≤ cs.size → (∀ j, off + i ≤ j → j < off + i + vs.length → ¬ (fr.1 ≤ j ∧ j < fr.2)) →
    ∃ w', (storeCells ⟨b, off, none⟩ vs i).run P w = .ok () w' ∧ w'.heap[b]? = some (.cells (putAt cs (off + i) vs) T fr) ∧ (∀ c, c ≠ b → w'.heap[c]? = w.heap[c]?) ∧ Same w w' := by
  induction vs with
  | nil => intro w off i cs hb _ _; exact ⟨w, by simp [storeCells], hb, fun _ _ => rfl, rfl, rfl, rfl⟩
  | cons v r ih =>
    intro w off i cs hb hsz hfr
    simp only [List.length_cons] at hsz hfr
    have hlt : off + i < cs.size := by omega
    have hc : w.cell? ⟨b, off + i, none⟩ = some cs[off + i] := by
      simp [World.cell?, hb, hlt]
    have hf : w.frozen? ⟨b, off + i, none⟩ = false := by
      have := hfr (off + i) (by omega) (by omega)
      simp only [World.frozen?, hb]
      simp only [Bool.and_eq_false_iff, decide_eq_false_iff_not]
      by_cases h1 : fr.1 ≤ off + i
      · right; omega
      · left; exact h1
    have hst : (store (Addr.add ⟨b, off, none⟩ i) v).run P w = .ok () (w.setCell ⟨b, off + i, none⟩ v) := by
      rw [add_none, run_store P w _ v _ (hone v (.head _)), hc]
      simp [hf]
    have hb' : (w.setCell ⟨b, off + i, none⟩ v).heap[b]? = some (.cells (cs.setIfInBounds (off + i) v) T fr) := by
      obtain ⟨lo, hi⟩ := fr
      simp [World.setCell, Array.getElem?_modify, hb]
    obtain ⟨w', hr, h1, h2, h3⟩ := ih (fun v hv => hone v (.tail _ hv)) (w.setCell ⟨b, off + i, none⟩ v) off (i + 1) (cs.setIfInBounds (off + i) v) hb' (by simp; omega) (fun j h1 h2 => hfr j (by omega) (by omega))
    refine ⟨w', ?_, ?_, fun c hc => ?_, h3⟩
    · simp only [storeCells, Sem.run_bind, hst, Result.andThen, hr]
    · simpa [putAt, Nat.add_assoc] using h1
    · rw [h2 c hc]
      simp [World.setCell, Array.getElem?_modify, Ne.symm hc]

/-- No cell of [off, off + n) is frozen. -/
def Thaw (fr : Nat × Nat) (off n : Nat) : Prop := fr.2 ≤ off ∨ off + n ≤ fr.1 ∨ fr.2 ≤ fr.1

theorem Thaw.zero (off n : Nat) : Thaw (0, 0) off n := .inr (.inr (Nat.le_refl _))

theorem Thaw.not {fr : Nat × Nat} {off n : Nat} (h : Thaw fr off n) : ∀ j, off ≤ j → j < off + n → ¬ (fr.1 ≤ j ∧ j < fr.2) := by
  unfold Thaw at h
  omega

theorem Thaw.sub {fr : Nat × Nat} {n off m : Nat} (h : Thaw fr 0 n) (hle : off + m ≤ n) : Thaw fr off m := by
  unfold Thaw at *
  omega

theorem Ex.store [Strm] {b off n : Nat} {T : TypeId} {fr : Nat × Nat} {cs cs' : Array Value} (H : SL w L) (hx : e.val x = some (.pointer (some ⟨b, off, none⟩))) (hy : e.val y = some v) (ht : sizeT P t = some n)
    (hu : Upd b (.cells cs T fr) (.cells cs' T fr) L L') (hn : v.cells.size = n) (hone : ∀ c ∈ v.cells.toList, c.oneCell' = true) (hoff : off + n ≤ cs.size) (hfr : Thaw fr off n)
    (hcs : putAt cs off v.cells.toList = cs') : Ex P w e (.store t x y) ty fun _ w' => SL w' L' := .of fun ρ hρ _ _ _ _ => by
  have hm := H.1 _ hu.mem
  obtain ⟨w', hr, h1, h2, h3⟩ := run_storeCells (P := P) v.cells.toList hone w off 0 cs hm (by simp; omega) (by simp only [Nat.add_zero, Array.length_toList]; rw [hn]; exact hfr.not)
  have hrun : (Instr.storeAt t (.pointer (some ⟨b, off, none⟩)) v).run P w = .ok () w' := by
    simp only [Instr.storeAt, Instr.sureAddr, storeVar, Sem.run_bind, Sem.run_pure, Result.andThen, run_sizeOf_of ht, hn, ne_eq, not_true, if_false, hr]
  have : SL w' L' := H.upd hu (by rw [h1]; simp [hcs]) h2 h3
  simp only [execOp, hρ _ _ hx, hρ _ _ hy, Sem.run_bind, hrun, Result.andThen]
  exact this

/-- One cell, written. -/
theorem Ex.store1 [Strm] {b off : Nat} {T : TypeId} {fr : Nat × Nat} {cs cs' : Array Value} (H : SL w L) (hx : e.val x = some (.pointer (some ⟨b, off, none⟩))) (hy : e.val y = some v) (ht : sizeT P t = some 1)
    (hv : v.oneCell' = true) (hu : Upd b (.cells cs T fr) (.cells cs' T fr) L L') (hoff : off < cs.size) (hfr : Thaw fr off 1) (hcs : cs.setIfInBounds off v = cs') :
    Ex P w e (.store t x y) ty fun _ w' => SL w' L' := by
  have hc : v.cells = #[v] := by cases v <;> first | rfl | simp [Value.oneCell'] at hv
  refine Ex.store H hx hy ht hu (by simp [hc]) (by simp [hc, hv]) (by omega) hfr (by simp [hc, putAt, hcs])

/-- A whole block, written. -/
theorem Ex.storeBlk [Strm] {b n : Nat} {T : TypeId} {fr : Nat × Nat} {cs : Array Value} {vs : List Value} (H : SL w L) (hx : e.val x = some (.pointer (some ⟨b, 0, none⟩))) (hy : e.val y = some (.agg vs.toArray))
    (ht : sizeT P t = some n) (hn : vs.length = n) (hone : ∀ c ∈ vs, c.oneCell' = true) (hu : Upd b (.cells cs T fr) (.cells vs.toArray T fr) L L') (hsz : cs.size = vs.length) (hfr : Thaw fr 0 vs.length) :
    Ex P w e (.store t x y) ty fun _ w' => SL w' L' :=
  Ex.store H hx hy (by rw [ht, ← hn]) hu (by simp [Value.cells]) (by simpa [Value.cells] using hone) (by omega) hfr (by simp only [Value.cells]; exact putAt_all (by simp [hsz]))

theorem Ex.alloc [Strm] {zv : Value} (H : SL w L) (hz : zeroT P t = some zv) :
    Ex P w e (.alloc t) ty fun v w' => ∃ b, v = .pointer (some ⟨b, 0, none⟩) ∧ SL w' ((b, .cells zv.cells t (0, 0)) :: L) := .of fun ρ hρ _ _ _ _ => by
  unfold zeroT at hz
  cases hi : P.info? t with
  | none => rw [hi] at hz; cases hz
  | some i =>
    rw [hi] at hz
    simp only [Option.bind_some] at hz
    simp only [execOp, Instr.alloc, zeroValue, typeInfo, newVar, newRow, Sem.run_bind, run_program, Result.andThen, hi, Sem.run_pure, hz, run_newObj]
    exact ⟨w.heap.size, rfl, H.alloc _⟩

theorem Ex.box [Strm] (H : SL w L) (hx : e.val x = some v) :
    Ex P w e (.box t x) ty fun u w' => ∃ b, u = .pointer (some ⟨b, 0, none⟩) ∧ SL w' ((b, .cells v.cells t (0, 0)) :: L) := .of fun ρ hρ _ _ _ _ => by
  simp only [execOp, hρ _ _ hx, Instr.box, newVar, newRow, Sem.run_bind, Result.andThen, run_newObj, Sem.run_pure]
  exact ⟨w.heap.size, rfl, H.alloc _⟩

/-! ### Calls -/

def Env.vals (e : Env) : List Operand → Option (List Value)
  | [] => some []
  | x :: r => match e.val x with
    | none => none
    | some v => match Env.vals e r with
      | none => none
      | some vs => some (v :: vs)

theorem Env.vals_map {ρ : Operand → Value} (hρ : Knows ρ e) : ∀ {l : List Operand} {vs : List Value}, e.vals l = some vs → l.map ρ = vs
  | [], vs, h => by simp [Env.vals] at h; simp [h]
  | x :: r, vs, h => by
    unfold Env.vals at h
    cases hx : e.val x with
    | none => rw [hx] at h; cases h
    | some v =>
      rw [hx] at h
      cases hr : e.vals r with
      | none => rw [hr] at h; cases h
      | some vs' =>
        rw [hr] at h
        cases h
        simp [hρ _ _ hx, Env.vals_map hρ hr]

theorem Ex.call {f : FuncId} {l : List Operand} {vs : List Value} {ats : Array TypeId} {K : Value → World → Prop} (hl : e.vals l = some vs)
    (hc : ∀ args w, (callFunc f args).run P w = .ok (.enter f args) w) (hs : Does P f vs.toArray w K) : Ex P w e (.call ⟨.value (.func f), l.toArray, ats⟩) ty K := .of fun ρ hρ _ _ _ _ => by
  have h1 := Env.vals_map hρ hl
  have h2 : ρ (.func f) = .func (.func f) #[] #[] := hρ _ _ rfl
  have h3 : (execOp ρ ⟨‹_›, .call ⟨.value (.func f), l.toArray, ats⟩, ty, ‹_›, ‹_›, ‹_›⟩).run P w = .ok (.enter f vs.toArray) w := by
    simp [execOp, resolve, h2, Deferred.ofValue, invoke, h1, hc]
  rw [h3]
  exact hs

/-- A call of a function value. -/
theorem Ex.callv {f : FuncId} {first cap : Array Value} {l : List Operand} {vs : List Value} {ats : Array TypeId} {K : Value → World → Prop} (hl : e.vals l = some vs) (hx : e.val x = some (.func (.func f) first cap))
    (hc : ∀ args w, (callFunc f args).run P w = .ok (.enter f args) w) (hs : Does P f (first ++ vs.toArray ++ cap) w K) : Ex P w e (.call ⟨.value x, l.toArray, ats⟩) ty K := .of fun ρ hρ _ _ _ _ => by
  have h1 := Env.vals_map hρ hl
  have h3 : (execOp ρ ⟨‹_›, .call ⟨.value x, l.toArray, ats⟩, ty, ‹_›, ‹_›, ‹_›⟩).run P w = .ok (.enter f (first ++ vs.toArray ++ cap)) w := by
    simp [execOp, resolve, hρ _ _ hx, Deferred.ofValue, invoke, h1, hc]
  rw [h3]
  exact hs

end

/-! ### Slices of a row of one's own -/

/-- v is a slice over the blocks B, of elements T of sz cells each: xs. -/
inductive Slc {α : Type} (g : α → List Value) (sz : Nat) (T : TypeId) : Value → List α → List (Nat × Obj) → Prop where
  | nil : Slc g sz T (.slice none 0 0) [] []
  | blk (b : Nat) (xs : List α) (cap : Nat) (spare : List Value) (fr : Nat × Nat) : spare.length + xs.length * sz = cap * sz → xs.length ≤ cap → Thaw fr 0 (cap * sz) →
    Slc g sz T (.slice (some ⟨b, 0, none⟩) xs.length cap) xs [(b, .cells (xs.flatMap g ++ spare).toArray T fr)]

theorem flatMap_length {α : Type} {g : α → List Value} {sz : Nat} (hg : ∀ x, (g x).length = sz) (xs : List α) : (xs.flatMap g).length = xs.length * sz := by
  induction xs with
  | nil => simp
  | cons x r ih => simp [ih, hg, Nat.add_mul, Nat.add_comm]

theorem flatMap_get {α : Type} {g : α → List Value} {sz : Nat} (hg : ∀ x, (g x).length = sz) : ∀ (xs : List α) (i j : Nat) (x : α), xs[i]? = some x → j < sz →
    (xs.flatMap g)[i * sz + j]? = (g x)[j]?
  | [], i, j, x, h, _ => by simp at h
  | y :: r, 0, j, x, h, hj => by
    simp at h; subst h
    simp only [Nat.zero_mul, Nat.zero_add, List.flatMap_cons]
    rw [List.getElem?_append_left (by rw [hg]; exact hj)]
  | y :: r, i + 1, j, x, h, hj => by
    have h' : r[i]? = some x := by simpa using h
    have := flatMap_get hg r i j x h' hj
    simp only [List.flatMap_cons]
    rw [List.getElem?_append_right (by rw [hg, Nat.add_mul]; omega), hg]
    have e : (i + 1) * sz + j - sz = i * sz + j := by rw [Nat.add_mul]; omega
    rw [e, this]

theorem flatMap_one {α : Type} (f : α → Value) (xs : List α) : xs.flatMap (fun x => [f x]) = xs.map f := by
  induction xs with
  | nil => rfl
  | cons x r ih => simp [ih]

theorem SL.appendPerm [Strm] {w : World} {A B : List (Nat × Obj)} (h : SL w (A ++ B)) : SL w (B ++ A) := h.perm List.perm_append_comm

theorem SL.dropL [Strm] {w : World} {A B : List (Nat × Obj)} (h : SL w (A ++ B)) : SL w B :=
  ⟨fun p hp => h.1 p (List.mem_append_right _ hp), by have := h.2.1; rw [List.map_append] at this; exact (List.nodup_append.1 this).2.1, h.2.2⟩

end Go.Proofs.YtniihnncgblocaaDoor.V
