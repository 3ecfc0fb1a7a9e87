/-
  The proof's parts, in one file: KF, KG, KH, KE, KI, Srt, VRanS, VInts, ShI.
-/
import Derived.Test.YtdppnaahdilkcaaGreatDoorM5
import Derived.Test.YtdppnaahdilkcaaGreatDoorM4
import Derived.Shelf.Strings.Builder1
import Derived.Shelf.Strings.Builder2
import Derived.Shelf.Small.Bits
import Derived.Shelf.Small.Wraps
import Derived.Shelf.Strings.BuilderF
import Derived.Shelf.Strings.BuilderK
import Derived.Shelf.Strings.Builder2Cap
import Derived.Shelf.Strconv.Itoa0
import Derived.Shelf.Strconv.Itoa1
import Derived.Shelf.LaysM
import Derived.Shelf.Strconv.Itoa2
import Derived.Shelf.Strconv.Itoa3
import Derived.Shelf.Sort.Plain
import Derived.Shelf.Strings.Prefix
import Derived.Shelf.Bits.Mul64
import Derived.Shelf.Strings.Repeat
import Derived.Shelf.Slices.Turned
import Derived.Shelf.Slices.Reverse
import Derived.Shelf.Slices.Equal
import Derived.Ground.Names2Prog
import Derived.Shelf.Slices.Clone
import Derived.Shelf.Slices.CompactI
import Derived.Shelf.Slices.SearchI
import Derived.Shelf.Slices.Cells
import Derived.Shelf.Slices.In.SortNone
import Derived.Shelf.Slices.Empties
import Derived.Shelf.Slices.Empties2
import Derived.Ground.SlgnProg
import Derived.Shelf.SlicesE.Reverse
import Derived.Shelf.SlicesE.Clone
import Derived.Shelf.Bytes.Small
import Derived.Test.YtdppnaahdilkcaaGreatDoorM3
import Derived.Test.YtdppnaahdilkcaaGreatDoorM2

section
/-
  A way to run code by reckoning (XIII): calls; a drawn region, reckoned.
-/
namespace Go.K
open Go.Proofs.YtdppnaahdilkcaaGreatDoor.V

/-! ## Calls -/

abbrev CallF := FuncId → List V → Mem → Option (V × Mem)

/-- A call is one, and comes back as reckoned. -/
def CallsOk [Obs] [Strm] (P : Program) (call : CallF) : Prop := ∀ (f : FuncId) (args : List V) (M : Mem) (v : V) (M' : Mem), call f args M = some (v, M') →
  (∀ args w, (callFunc f args).run P w = .ok (.enter f args) w) ∧
  ∀ S H F w, Obs.glob F → oks (dom H M.nx) args → Rel S H M F w → Does P f (concs S args).toArray w (Post S H M.nx F (some v) M')

noncomputable def callM (P : Program) (call : CallF) (e : En) (M : Mem) : Op → Option (Option V × Mem)
  | .call ⟨.value x, as_, _⟩ => (match e.val x, e.vals as_.toList with
    | some (.fn f caps), some vs => (match call f (appR vs caps) M with
      | some (v, M') => some (some v, M')
      | none => none)
    | _, _ => none)
  | .call ⟨.invoke x name, as_, _⟩ => (match e.val x, e.vals as_.toList with
    | some (.iface t (.ptr b o)), some vs => (match methT P t name, P.underlying t with
      | some (f, true), some (.pointer _) => (match call f (.ptr b o :: vs) M with
        | some (v, M') => some (some v, M')
        | none => none)
      | some (f, false), some (.pointer el) => bif plainT P el then (match M.row b with
        | some cs => (match nthR cs o with
          | some u => (match call f (u :: vs) M with
            | some (v, M') => some (some v, M')
            | none => none)
          | none => none)
        | none => none) else none
      | _, _ => none)
    | _, _ => none)
  | _ => none

theorem callM_spec [Obs] [Strm] {P : Program} {call : CallF} (hc : CallsOk P call) {S : Si} {H : Dm} {M M' : Mem} {F : List (Nat × Obj)} (hG : Obs.glob F) {w : World} {e : En} {op : Op} {ty : TypeId} {o : Option V} (hr : Rel S H M F w) (h : callM P call e M op = some (o, M')) (hk : e.ok (dom H M.nx)) :
    Ex P w (e.conc S) op ty (Post S H M.nx F o M') := by
  unfold callM at h
  simp only [appR_eq, nthR_eq] at h
  split at h
  · rename_i x as_ ats
    split at h
    · rename_i f caps vs hx hv
      split at h
      · rename_i v M'' hcall
        cases h
        obtain ⟨h1, h2⟩ := hc _ _ _ _ _ hcall
        obtain ⟨x1, x2⟩ := En.val_conc (S := S) hx hk
        obtain ⟨v1, v2⟩ := En.vals_conc (S := S) hk hv
        have hd := h2 S H F w hG (oks_append v2 x2) hr
        have e1 : (concs S (vs ++ caps)).toArray = (#[] : Array Value) ++ (concs S vs).toArray ++ (concs S caps).toArray := by
          rw [concs_append]
          apply Array.ext'
          simp
        rw [e1] at hd
        have := Ex.callv (ty := ty) (ats := ats) v1 x1 h1 hd
        simpa using this
      · cases h
    · cases h
  · rename_i x name as_ ats
    split at h
    · rename_i t b o' vs hx hv
      obtain ⟨x1, x2⟩ := En.val_conc (S := S) hx hk
      obtain ⟨v1, v2⟩ := En.vals_conc (S := S) hk hv
      split at h
      · rename_i f el hm hu
        split at h
        · rename_i v M'' hcall
          cases h
          obtain ⟨h1, h2⟩ := hc _ _ _ _ _ hcall
          have hd := h2 S H F w hG ⟨x2, v2⟩ hr
          have := Ex.invoke (P := P) (ty := ty) (ats := ats) (name := name) x1 v1 (fun n => run_method_ptr hm hu) h1 hd
          simpa using this
        · cases h
      · rename_i f el hm hu
        replace h := bif_some h; obtain ⟨hp, h⟩ := h
        split at h
        · rename_i cs hrow
          split at h
          · rename_i u hcs
            split at h
            · rename_i v M'' hcall
              cases h
              obtain ⟨h1, h2⟩ := hc _ _ _ _ _ hcall
              obtain ⟨L, r1, r2, r3⟩ := hr.row hrow
              have hd := h2 S H F w hG ⟨oks_iff.1 r3 _ (List.mem_of_getElem? hcs), v2⟩ hr
              have hcell := Rd.cell r1 (r2 _ _ hcs)
              have := Ex.invoke (P := P) (ty := ty) (ats := ats) (name := name) x1 v1 (fun n => run_method_val hm hu hp hcell) h1 hd
              simpa using this
            · cases h
          · cases h
        · cases h
      · cases h
    · cases h
  · cases h

noncomputable def effC (P : Program) (call : CallF) (e : En) (M : Mem) (op : Op) : Option (Option V × Mem) := match effM P e M op with
  | some r => some r
  | none => callM P call e M op

theorem effC_spec [Obs] [Strm] {P : Program} {call : CallF} (hc : CallsOk P call) {S : Si} {H : Dm} {M M' : Mem} {F : List (Nat × Obj)} (hG : Obs.glob F) {w : World} {e : En} {op : Op} {ty : TypeId} {o : Option V} (hr : Rel S H M F w) (h : effC P call e M op = some (o, M')) (hk : e.ok (dom H M.nx)) :
    Ex P w (e.conc S) op ty (Post S H M.nx F o M') := by
  unfold effC at h
  split at h
  · cases h; exact effM_spec hr ‹_› hk
  · exact callM_spec hc hG hr h hk

/-! ## Masks -/

noncomputable def has (m j : Nat) : Bool := Nat.beq (Nat.land (Nat.shiftRight m j) 1) 1

theorem has_bit (m j : Nat) : has m j = m.testBit j := by
  have h1 : has m j = Nat.beq ((m >>> j) &&& 1) 1 := rfl
  rw [h1, Nat.and_one_is_mod, Nat.testBit_eq_decide_div_mod_eq, Nat.shiftRight_eq_div_pow]
  cases h : Nat.beq (m / 2 ^ j % 2) 1 with
  | true => rw [Nat.eq_of_beq_eq_true h]; rfl
  | false => have := Nat.ne_of_beq_eq_false h; simp [this]

theorem has_or (a b j : Nat) : has (Nat.lor a b) j = (has a j || has b j) := by
  rw [has_bit, has_bit, has_bit]
  exact Nat.testBit_or a b j

theorem has_one (k j : Nat) : has (Nat.shiftLeft 1 k) j = Nat.beq k j := by
  rw [has_bit]
  have : Nat.shiftLeft 1 k = 2 ^ k := by
    show 1 <<< k = _
    rw [Nat.one_shiftLeft]
  rw [this, Nat.testBit_two_pow]
  cases h : Nat.beq k j with
  | true => simp [Nat.eq_of_beq_eq_true h]
  | false => have := Nat.ne_of_beq_eq_false h; simp [this]

theorem has_zero (j : Nat) : has 0 j = false := by rw [has_bit]; simp

/-! ## What a region's text says -/

noncomputable def ancE (acc : List Nat) (i : Nat) (l : List Edge) : Option Nat := List.rec (motive := fun _ => Option Nat) (some 0) (fun e _ ih => match ih with
    | none => none
    | some m => bif Region.binds .any e then (bif Nat.blt e.on i then (match nthR acc (i - 1 - e.on) with
        | some m' => some (Nat.lor (Nat.lor (Nat.shiftLeft 1 e.on) m') m)
        | none => none) else none) else some m) l
theorem ancE_cons {acc : List Nat} {i : Nat} {e : Edge} {r : List Edge} : ancE acc i (e :: r) = match ancE acc i r with
    | none => none
    | some m => bif Region.binds .any e then (bif Nat.blt e.on i then (match nthR acc (i - 1 - e.on) with
        | some m' => some (Nat.lor (Nat.lor (Nat.shiftLeft 1 e.on) m') m)
        | none => none) else none) else some m := rfl

theorem ancE_spec {acc : List Nat} {i : Nat} : ∀ {es : List Edge} {m : Nat}, ancE acc i es = some m →
    (∀ e ∈ es, Region.binds .any e = true → e.on < i) ∧ ∀ j, has m j = true → ∃ e ∈ es, Region.binds .any e = true ∧ (j = e.on ∨ ∃ m', acc[i - 1 - e.on]? = some m' ∧ has m' j = true)
  | [], m, h => by
    cases h
    exact ⟨by simp, fun j hj => by rw [has_zero] at hj; cases hj⟩
  | e :: r, m, h => by
    rw [ancE_cons, nthR_eq] at h
    split at h
    · cases h
    · rename_i m0 hm
      obtain ⟨h1, h2⟩ := ancE_spec hm
      cases hb : Region.binds .any e with
      | false =>
        rw [hb] at h
        cases h
        refine ⟨fun e' he' hb' => ?_, fun j hj => ?_⟩
        · rcases List.mem_cons.1 he' with rfl | he'
          · rw [hb] at hb'; cases hb'
          · exact h1 e' he' hb'
        · obtain ⟨e', g1, g2⟩ := h2 j hj
          exact ⟨e', .tail _ g1, g2⟩
      | true =>
        rw [hb] at h
        simp only [cond_true] at h
        replace h := bif_some h; obtain ⟨hlt, h⟩ := h
        have hlt : e.on < i := Nat.le_of_ble_eq_true hlt
        split at h
        · rename_i m' hm'
          cases h
          refine ⟨fun e' he' hb' => ?_, fun j hj => ?_⟩
          · rcases List.mem_cons.1 he' with rfl | he'
            · exact hlt
            · exact h1 e' he' hb'
          · rw [has_or, has_or, has_one] at hj
            rcases Bool.or_eq_true_iff.1 hj with hj | hj
            · rcases Bool.or_eq_true_iff.1 hj with hj | hj
              · exact ⟨e, .head _, hb, .inl (Nat.eq_of_beq_eq_true hj).symm⟩
              · exact ⟨e, .head _, hb, .inr ⟨m', hm', hj⟩⟩
            · obtain ⟨e', g1, g2⟩ := h2 j hj
              exact ⟨e', .tail _ g1, g2⟩
        · cases h

/-- Operations and what each waits for, the last one first; the slots that are written. -/
inductive Stat (n : Nat) : List (Oper × Nat) → Nat → Prop
  | nil : Stat n [] 0
  | non {q : List (Oper × Nat)} {sl : Nat} {o : Oper} {m : Nat} : Stat n q sl → ancE (q.map (·.2)) q.length o.after.toList = some m → o.dst = none → Stat n ((o, m) :: q) sl
  | som {q : List (Oper × Nat)} {sl : Nat} {o : Oper} {m d : Nat} : Stat n q sl → ancE (q.map (·.2)) q.length o.after.toList = some m → o.dst = some d → d < n → has sl d = false → Stat n ((o, m) :: q) (Nat.lor sl (Nat.shiftLeft 1 d))

noncomputable def statR (n : Nat) (l : List Oper) : Nat → List Nat → List (Oper × Nat) → Nat → Option (List (Oper × Nat) × Nat) :=
  List.rec (motive := fun _ => Nat → List Nat → List (Oper × Nat) → Nat → Option (List (Oper × Nat) × Nat)) (fun _ _ q sl => some (q, sl)) (fun o _ ih i acc q sl => match ancE acc i o.after.toList with
    | none => none
    | some m => match o.dst with
      | none => ih (i + 1) (m :: acc) ((o, m) :: q) sl
      | some d => bif Nat.blt d n && !has sl d then ih (i + 1) (m :: acc) ((o, m) :: q) (Nat.lor sl (Nat.shiftLeft 1 d)) else none) l
theorem statR_cons {n : Nat} {o : Oper} {r : List Oper} {i : Nat} {acc : List Nat} {q : List (Oper × Nat)} {sl : Nat} : statR n (o :: r) i acc q sl = match ancE acc i o.after.toList with
    | none => none
    | some m => match o.dst with
      | none => statR n r (i + 1) (m :: acc) ((o, m) :: q) sl
      | some d => bif Nat.blt d n && !has sl d then statR n r (i + 1) (m :: acc) ((o, m) :: q) (Nat.lor sl (Nat.shiftLeft 1 d)) else none := rfl

theorem statR_spec {n : Nat} : ∀ {l : List Oper} {i : Nat} {acc : List Nat} {q : List (Oper × Nat)} {sl : Nat} {q' : List (Oper × Nat)} {sl' : Nat}, statR n l i acc q sl = some (q', sl') → Stat n q sl → i = q.length → acc = q.map (·.2) →
    Stat n q' sl' ∧ q'.reverse.map (·.1) = q.reverse.map (·.1) ++ l
  | [], i, acc, q, sl, q', sl', h, hs, _, _ => by
    cases h; exact ⟨hs, by simp⟩
  | o :: r, i, acc, q, sl, q', sl', h, hs, hi, ha => by
    rw [statR_cons] at h
    split at h
    · cases h
    · rename_i m hm
      subst hi ha
      split at h
      · rename_i hd
        obtain ⟨h1, h2⟩ := statR_spec h (.non hs hm hd) rfl rfl
        exact ⟨h1, by rw [h2]; simp⟩
      · rename_i d hd
        replace h := bif_some h; obtain ⟨hb, h⟩ := h
        rw [Bool.and_eq_true] at hb
        obtain ⟨h1, h2⟩ := statR_spec h (.som hs hm hd (Nat.le_of_ble_eq_true hb.1) (by simpa using hb.2)) rfl rfl
        exact ⟨h1, by rw [h2]; simp⟩

theorem Stat.drop {n : Nat} : ∀ {ext q : List (Oper × Nat)} {sl : Nat}, Stat n (ext ++ q) sl → ∃ sl', Stat n q sl'
  | [], _, sl, h => ⟨sl, h⟩
  | _ :: ext, q, _, h => by cases h with | non h _ _ => exact Stat.drop h | som h _ _ _ _ => exact Stat.drop h

theorem Stat.head {n : Nat} {q : List (Oper × Nat)} {sl m : Nat} {o : Oper} (h : Stat n ((o, m) :: q) sl) : ancE (q.map (·.2)) q.length o.after.toList = some m ∧ ∀ d, o.dst = some d → d < n := by
  cases h with
  | non h h1 h2 => exact ⟨h1, fun d hd => by rw [h2] at hd; cases hd⟩
  | som h h1 h2 h3 h4 => exact ⟨h1, fun d hd => by rw [h2] at hd; cases hd; exact h3⟩

theorem Stat.slots {n : Nat} {q : List (Oper × Nat)} {sl : Nat} (h : Stat n q sl) : ∀ d, has sl d = true ↔ ∃ x ∈ q, x.1.dst = some d := by
  induction h with
  | nil => intro d; rw [has_zero]; simp
  | non h h1 h2 ih => intro d; rw [ih]; simp [h2]
  | som h h1 h2 h3 h4 ih =>
    intro d
    rw [has_or, has_one, Bool.or_eq_true, ih]
    constructor
    · rintro (⟨x, hx, hd⟩ | hb)
      · exact ⟨x, .tail _ hx, hd⟩
      · exact ⟨_, .head _, by rw [h2, Nat.eq_of_beq_eq_true hb]⟩
    · rintro ⟨x, hx, hd⟩
      rcases List.mem_cons.1 hx with rfl | hx
      · right; rw [h2] at hd; cases hd; exact Nat.beq_refl _
      · exact .inl ⟨x, hx, hd⟩

/-- No slot is written twice. -/
theorem Stat.apart {n : Nat} {q : List (Oper × Nat)} {sl : Nat} (h : Stat n q sl) : ∀ (i j : Nat) (x y : Oper × Nat) (d : Nat), q[i]? = some x → q[j]? = some y → x.1.dst = some d → y.1.dst = some d → i = j := by
  induction h with
  | nil => intro i j x y d h; simp at h
  | non h h1 h2 ih =>
    intro i j x y d hi hj hx hy
    cases i with
    | zero => simp at hi; subst hi; rw [h2] at hx; cases hx
    | succ i =>
      cases j with
      | zero => simp at hj; subst hj; rw [h2] at hy; cases hy
      | succ j => rw [ih i j x y d (by simpa using hi) (by simpa using hj) hx hy]
  | som h h1 h2 h3 h4 ih =>
    have no : ∀ (j : Nat) (y : Oper × Nat), _ → y.1.dst = some _ → False := fun j y (hj : _[j]? = some y) hy => by
      have := (h.slots _).2 ⟨y, List.mem_of_getElem? hj, hy⟩
      rw [h4] at this; cases this
    intro i j x y d hi hj hx hy
    cases i with
    | zero =>
      simp at hi; subst hi
      rw [h2] at hx; cases hx
      cases j with
      | zero => rfl
      | succ j => exact (no j y (by simpa using hj) hy).elim
    | succ i =>
      cases j with
      | zero =>
        simp at hj; subst hj
        rw [h2] at hy; cases hy
        exact (no i x (by simpa using hi) hx).elim
      | succ j => rw [ih i j x y d (by simpa using hi) (by simpa using hj) hx hy]

/-- What an operation waits for stands ahead of it. -/
theorem Stat.lt {n : Nat} {q : List (Oper × Nat)} {sl : Nat} (h : Stat n q sl) : ∀ (k : Nat) (x : Oper × Nat) (j : Nat), q[k]? = some x → has x.2 j = true → j < q.length - 1 - k := by
  have key : ∀ (q : List (Oper × Nat)) (o : Oper) (m : Nat), (∀ (k : Nat) (x : Oper × Nat) (j : Nat), q[k]? = some x → has x.2 j = true → j < q.length - 1 - k) → ancE (q.map (·.2)) q.length o.after.toList = some m →
      ∀ (k : Nat) (x : Oper × Nat) (j : Nat), ((o, m) :: q)[k]? = some x → has x.2 j = true → j < ((o, m) :: q).length - 1 - k := by
    intro q o m ih hm k x j hk hj
    cases k with
    | zero =>
      simp at hk
      subst hk
      obtain ⟨e, h1, h2, h3⟩ := (ancE_spec hm).2 j hj
      have hlt := (ancE_spec hm).1 e h1 h2
      rcases h3 with rfl | ⟨m', h4, h5⟩
      · simpa using hlt
      · rw [List.getElem?_map, Option.map_eq_some_iff] at h4
        obtain ⟨y, hy, rfl⟩ := h4
        have := ih _ y j hy h5
        simp
        omega
    | succ k =>
      have := ih k x j (by simpa using hk) hj
      simp
      omega
  induction h with
  | nil => intro k x j h; simp at h
  | non h h1 h2 ih => exact key _ _ _ ih h1
  | som h h1 h2 h3 h4 ih => exact key _ _ _ ih h1

end Go.K
end

section
/-
  A way to run code by reckoning (XIV): a drawn region, reckoned: the trace of what was reckoned says what is wanted of it.
-/
namespace Go.K
open Go.Proofs.YtdppnaahdilkcaaGreatDoor.V

structure Rec where
  ix : Nat
  an : Nat
  o : Oper
  env : En
  vl : Option V
  kd : Kd
  mb : Mem
  ma : Mem
  fo : Nat

noncomputable def envOne (r : Rec) (e : En) : En := match r.o.dst, r.vl with
  | some d, some v => (d, v) :: e
  | _, _ => e
noncomputable def envOf (c : Nat → Bool) (e0 : En) (l : List Rec) : En := List.rec (motive := fun _ => En) e0 (fun r _ ih => bif c r.ix then envOne r ih else ih) l
theorem envOf_cons {c : Nat → Bool} {e0 : En} {r : Rec} {tr : List Rec} : envOf c e0 (r :: tr) = bif c r.ix then (match r.o.dst, r.vl with
      | some d, some v => (d, v) :: envOf c e0 tr
      | _, _ => envOf c e0 tr) else envOf c e0 tr := rfl

theorem envOf_mem {c : Nat → Bool} {e0 : En} : ∀ {tr : List Rec} {x : Nat × V}, x ∈ envOf c e0 tr → (∃ r ∈ tr, c r.ix = true ∧ r.o.dst = some x.1 ∧ r.vl = some x.2) ∨ x ∈ e0
  | [], _, h => .inr h
  | r :: tr, x, h => by
    have rest : x ∈ envOf c e0 tr → (∃ r' ∈ r :: tr, c r'.ix = true ∧ r'.o.dst = some x.1 ∧ r'.vl = some x.2) ∨ x ∈ e0 := fun h => by
      rcases envOf_mem h with ⟨r', h1, h2⟩ | h1
      · exact .inl ⟨r', .tail _ h1, h2⟩
      · exact .inr h1
    rw [envOf_cons] at h
    cases hc : c r.ix with
    | false => rw [hc] at h; exact rest h
    | true =>
      rw [hc] at h
      simp only [cond_true] at h
      split at h
      · rename_i d v hd hv
        rcases List.mem_cons.1 h with rfl | h
        · exact .inl ⟨r, .head _, hc, hd, hv⟩
        · exact rest h
      · exact rest h

theorem envOf_get {c : Nat → Bool} {e0 : En} : ∀ {tr : List Rec} {t : Nat} {v : V}, (envOf c e0 tr).get t = some v → (∃ r ∈ tr, c r.ix = true ∧ r.o.dst = some t ∧ r.vl = some v) ∨ e0.get t = some v
  | [], _, _, h => .inr h
  | r :: tr, t, v, h => by
    have rest : (envOf c e0 tr).get t = some v → (∃ r' ∈ r :: tr, c r'.ix = true ∧ r'.o.dst = some t ∧ r'.vl = some v) ∨ e0.get t = some v := fun h => by
      rcases envOf_get h with ⟨r', h1, h2⟩ | h1
      · exact .inl ⟨r', .tail _ h1, h2⟩
      · exact .inr h1
    rw [envOf_cons] at h
    cases hc : c r.ix with
    | false => rw [hc] at h; exact rest h
    | true =>
      rw [hc] at h
      simp only [cond_true] at h
      split at h
      · rename_i d u hd hu
        rw [En.get_cons] at h
        cases hb : Nat.beq d t with
        | true =>
          rw [hb] at h
          simp only [cond_true, Option.some.injEq] at h
          subst h
          exact .inl ⟨r, .head _, hc, by rw [hd, Nat.eq_of_beq_eq_true hb], hu⟩
        | false => rw [hb] at h; exact rest h
      · exact rest h

/-- What stood in the marked slots. -/
noncomputable def oldE (m : Nat) (l : En) : En := List.rec (motive := fun _ => En) [] (fun p _ ih => bif has m p.1 then p :: ih else ih) l
theorem oldE_cons {m t : Nat} {v : V} {r : En} : oldE m ((t, v) :: r) = bif has m t then (t, v) :: oldE m r else oldE m r := rfl

theorem oldE_get {m : Nat} : ∀ {e : En} {t : Nat} {v : V}, (oldE m e).get t = some v → has m t = true ∧ e.get t = some v
  | [], _, _, h => by cases h
  | (k, u) :: r, t, v, h => by
    rw [oldE_cons] at h
    rw [En.get_cons]
    cases hk : has m k with
    | true =>
      rw [hk] at h
      simp only [cond_true] at h
      rw [En.get_cons] at h
      cases hb : Nat.beq k t with
      | true => rw [hb] at h; exact ⟨by rw [← Nat.eq_of_beq_eq_true hb]; exact hk, h⟩
      | false => rw [hb] at h; exact oldE_get (e := r) h
    | false =>
      rw [hk] at h
      obtain ⟨h1, h2⟩ := oldE_get (e := r) h
      have : Nat.beq k t = false := by
        cases hb : Nat.beq k t with
        | false => rfl
        | true => rw [Nat.eq_of_beq_eq_true hb, h1] at hk; cases hk
      rw [this]
      exact ⟨h1, h2⟩

theorem oldE_mem {m : Nat} : ∀ {e : En} {x : Nat × V}, x ∈ oldE m e → x ∈ e
  | [], _, h => h
  | (k, u) :: r, x, h => by
    rw [oldE_cons] at h
    cases hk : has m k with
    | true =>
      rw [hk] at h
      rcases List.mem_cons.1 h with rfl | h
      · exact .head _
      · exact .tail _ (oldE_mem (e := r) h)
    | false => rw [hk] at h; exact .tail _ (oldE_mem (e := r) h)

theorem En.get_app : ∀ {a b : En} {t : Nat} {v : V}, (a ++ b).get t = some v → a.get t = some v ∨ b.get t = some v
  | [], _, _, _, h => .inr h
  | (k, u) :: r, b, t, v, h => by
    rw [List.cons_append, En.get_cons] at h
    rw [En.get_cons]
    cases hb : Nat.beq k t with
    | true => rw [hb] at h; exact .inl h
    | false => rw [hb] at h; exact En.get_app (a := r) h

def fnd (tr : List Rec) (i : Nat) : Option Rec := tr.find? fun r => Nat.beq r.ix i
noncomputable def fndR (tr : List Rec) (i : Nat) : Option Rec := findR (fun r => Nat.beq r.ix i) tr
theorem fndR_eq (tr : List Rec) (i : Nat) : fndR tr i = fnd tr i := findR_eq _ _
noncomputable def isEff (p : Nat) (r : Rec) : Bool := match r.kd with
  | .eff q => Nat.beq q p
  | _ => false
noncomputable def fne (tr : List Rec) (p : Nat) : Option Rec := tr.find? (isEff p)

noncomputable def foldN (n0 : Nat) (c : Rec → Bool) (l : List Rec) : Mem → Mem := List.rec (motive := fun _ => Mem → Mem) (fun M => M) (fun r _ ih M => match r.kd with
    | .new blk => bif c r then ih (M.put (n0 + r.ix) blk) else ih M
    | _ => ih M) l
theorem foldN_cons {n0 : Nat} {c : Rec → Bool} {r : Rec} {tr : List Rec} {M : Mem} : foldN n0 c (r :: tr) M = match r.kd with
    | .new blk => bif c r then foldN n0 c tr (M.put (n0 + r.ix) blk) else foldN n0 c tr M
    | _ => foldN n0 c tr M := rfl

noncomputable def newB (n0 : Nat) (c : Rec → Bool) (r : Rec) : Option (Nat × Blk) := match r.kd with
  | .new blk => bif c r then some (n0 + r.ix, blk) else none
  | _ => none

theorem foldN_spec [Obs] [Strm] {n0 : Nat} {c : Rec → Bool} {S : Si} {H : Dm} {F : List (Nat × Obj)} {w : World} {D : Dm} : ∀ {tr : List Rec} {M : Mem} {Lb : List (Nat × Obj)}, D = dom H M.nx → HoldsL S D (tr.filterMap (newB n0 c)) Lb → Rel S H M (Lb ++ F) w → Rel S H (foldN n0 c tr M) F w
  | [], M, Lb, _, h, hr => by cases h; exact hr
  | r :: tr, M, Lb, hD, h, hr => by
    rw [List.filterMap_cons] at h
    rw [foldN_cons]
    cases hk : r.kd with
    | new blk =>
      cases hc : c r with
      | true =>
        have e1 : newB n0 c r = some (n0 + r.ix, blk) := by unfold newB; rw [hk]; simp only [hc, cond_true]
        rw [e1] at h
        obtain ⟨L1, L2, rfl, h1, h2⟩ := h
        simp only [cond_true]
        rw [List.append_assoc] at hr
        exact foldN_spec (M := M.put (n0 + r.ix) blk) hD h2 (Rel.into hr (hD ▸ h1))
      | false =>
        have e1 : newB n0 c r = none := by unfold newB; rw [hk]; simp only [hc, cond_false]
        rw [e1] at h
        exact foldN_spec hD h hr
    | _ =>
      have e1 : newB n0 c r = none := by unfold newB; rw [hk]
      rw [e1] at h
      exact foldN_spec hD h hr

theorem foldN_nx {n0 : Nat} {c : Rec → Bool} : ∀ {tr : List Rec} {M : Mem}, (foldN n0 c tr M).nx = M.nx
  | [], _ => rfl
  | r :: tr, M => by
    rw [foldN_cons]
    split
    · rename_i blk hk
      cases c r
      · exact foldN_nx (tr := tr)
      · exact foldN_nx (tr := tr) (M := M.put (n0 + r.ix) blk)
    · exact foldN_nx (tr := tr)

noncomputable def memsW (an : Nat) (m0 : Mem) (l : List Rec) : List Mem := List.rec (motive := fun _ => List Mem) [m0] (fun r _ ih => match r.kd with
    | .eff _ => bif has an r.ix then [r.ma] else r.ma :: ih
    | _ => ih) l
theorem memsW_cons {an : Nat} {m0 : Mem} {r : Rec} {tr : List Rec} : memsW an m0 (r :: tr) = match r.kd with
    | .eff _ => bif has an r.ix then [r.ma] else r.ma :: memsW an m0 tr
    | _ => memsW an m0 tr := rfl

noncomputable def chain (an : Nat) (l : List Rec) : Bool := List.rec (motive := fun _ => Bool) true (fun r _ ih => match r.kd with
    | .eff _ => has an r.ix
    | _ => ih) l
theorem chain_cons {an : Nat} {r : Rec} {tr : List Rec} : chain an (r :: tr) = match r.kd with
    | .eff _ => has an r.ix
    | _ => chain an tr := rfl

noncomputable def sameV : Option V → Option V → Bool
  | some a, some b => a.beq b
  | _, _ => false
theorem sameV_eq {a b : Option V} (h : sameV a b = true) : a = b := by
  unfold sameV at h
  split at h
  · rw [V.beq_eq _ _ h]
  · cases h

noncomputable def rdOk (P : Program) (an fo : Nat) (M : Mem) (r : Rec) : Bool := match r.kd with
  | .rd => bif has an r.ix then true else bif has fo r.ix then true else sameV (readM P r.env M r.o.op) r.vl
  | _ => true

noncomputable def guardV (an : Nat) (tr : List Rec) : Option (Nat × Bool) → Option Bool
  | none => some true
  | some (j, b) => bif has an j then (match fndR tr j with
    | some r => (match r.o.dst, r.vl with
      | some _, some (.bool c) => some (bif c then b else !b)
      | some _, some (.tup []) => some false
      | _, _ => none)
    | none => none) else none

section
variable (P : Program) (call : CallF) (n0 : Nat) (m0 : Mem) (e0 eo : En) (om : Nat → Nat)

/-- What was reckoned of an operation, behind the trace tr. -/
def Rec.Ok (tr : List Rec) (p : Nat) (cur : Mem) (fo : Nat) (r : Rec) : Prop :=
  (guardV r.an tr r.o.guard = some true ∧ match r.kd with
    | .val => ∃ v, r.vl = some v ∧ opV P r.env r.o.op = some v
    | .rd => ∃ v, r.vl = some v ∧ ∀ M ∈ memsW r.an m0 tr, readM P r.env M r.o.op = some v
    | .new blk => ∃ v, r.vl = some v ∧ newV P r.env (n0 + r.ix) r.o.op = some (v, blk)
    | .eff q => q = p ∧ chain r.an tr = true ∧ r.mb = foldN n0 (fun x => has r.an x.ix && !has fo x.ix) tr cur ∧ effC P call r.env r.mb r.o.op = some (r.vl, r.ma) ∧ cur.nx ≤ r.ma.nx ∧ r.fo = Nat.lor fo r.an ∧
        ∀ x ∈ tr, rdOk P r.an fo r.ma x = true) ∨
  (guardV r.an tr r.o.guard = some false ∧ r.kd = .val ∧ r.vl = some (.tup []))

inductive Tr : List Rec → Nat → Mem → Nat → Prop
  | nil : Tr [] 0 m0 0
  | eff {tr : List Rec} {p fo : Nat} {cur : Mem} {r : Rec} : Tr tr p cur fo → r.ix = tr.length → r.env = envOf (has r.an) (oldE (om r.ix) eo ++ e0) tr → r.Ok P call n0 m0 tr p cur fo → r.kd = .eff p → Tr (r :: tr) (p + 1) r.ma r.fo
  | oth {tr : List Rec} {p fo : Nat} {cur : Mem} {r : Rec} : Tr tr p cur fo → r.ix = tr.length → r.env = envOf (has r.an) (oldE (om r.ix) eo ++ e0) tr → r.Ok P call n0 m0 tr p cur fo → (∀ q, r.kd ≠ .eff q) → Tr (r :: tr) p cur fo

end

noncomputable def plOf (n0 : Nat) (m0 : Mem) (tr : List Rec) : Pl where
  n0 := n0
  kd i := match fnd tr i with | some r => r.kd | none => .val
  vl i := match fnd tr i with | some r => r.vl | none => none
  an i j := match fnd tr i with | some r => has r.an j | none => false
  mm p := match p with | 0 => m0 | p + 1 => (match fne tr p with | some r => r.ma | none => m0)
  mb p := match fne tr p with | some r => r.mb | none => m0
  fo p j := match p with | 0 => false | p + 1 => (match fne tr p with | some r => has r.fo j | none => false)
  env i := match fnd tr i with | some r => r.env | none => []

section
variable {P : Program} {call : CallF} {n0 : Nat} {m0 : Mem} {e0 eo : En} {om : Nat → Nat}

theorem fnd_mem {tr : List Rec} {i : Nat} {r : Rec} (h : fnd tr i = some r) : r ∈ tr ∧ r.ix = i := by
  unfold fnd at h
  exact ⟨List.mem_of_find?_eq_some h, Nat.eq_of_beq_eq_true (List.find?_some (p := fun r : Rec => Nat.beq r.ix i) h)⟩

theorem Tr.ixs {tr : List Rec} {p fo : Nat} {cur : Mem} (T : Tr P call n0 m0 e0 eo om tr p cur fo) : ∀ (k : Nat) (r : Rec), tr[k]? = some r → r.ix = tr.length - 1 - k := by
  have key : ∀ (tr : List Rec) (r0 : Rec), (∀ (k : Nat) (r : Rec), tr[k]? = some r → r.ix = tr.length - 1 - k) → r0.ix = tr.length → ∀ (k : Nat) (r : Rec), (r0 :: tr)[k]? = some r → r.ix = (r0 :: tr).length - 1 - k := by
    intro tr r0 ih h0 k r hk
    cases k with
    | zero => simp at hk; subst hk; simpa using h0
    | succ k => have := ih k r (by simpa using hk); simp; omega
  induction T with
  | nil => intro k r h; simp at h
  | eff T h1 h2 h3 h4 ih => exact key _ _ ih h1
  | oth T h1 h2 h3 h4 ih => exact key _ _ ih h1

theorem Tr.lt {tr : List Rec} {p fo : Nat} {cur : Mem} (T : Tr P call n0 m0 e0 eo om tr p cur fo) {r : Rec} (hr : r ∈ tr) : r.ix < tr.length := by
  obtain ⟨k, hk⟩ := List.getElem?_of_mem hr
  have := T.ixs k r hk
  have : k < tr.length := by
    rcases Nat.lt_or_ge k tr.length with h | h
    · exact h
    · rw [List.getElem?_eq_none h] at hk; cases hk
  omega

theorem Tr.fnd_of {tr : List Rec} {p fo : Nat} {cur : Mem} (T : Tr P call n0 m0 e0 eo om tr p cur fo) {r : Rec} (hr : r ∈ tr) : fnd tr r.ix = some r := by
  induction T with
  | nil => cases hr
  | eff T h1 h2 h3 h4 ih =>
    unfold fnd
    rw [List.find?_cons]
    rcases List.mem_cons.1 hr with rfl | hr
    · rw [Nat.beq_refl]
    · rw [beq_no (by have := T.lt hr; omega)]
      exact ih hr
  | oth T h1 h2 h3 h4 ih =>
    unfold fnd
    rw [List.find?_cons]
    rcases List.mem_cons.1 hr with rfl | hr
    · rw [Nat.beq_refl]
    · rw [beq_no (by have := T.lt hr; omega)]
      exact ih hr

theorem Tr.at {tr : List Rec} {p fo : Nat} {cur : Mem} (T : Tr P call n0 m0 e0 eo om tr p cur fo) {i : Nat} (hi : i < tr.length) : ∃ r, tr[tr.length - 1 - i]? = some r ∧ r.ix = i ∧ fnd tr i = some r := by
  have hk : tr[tr.length - 1 - i]? = some (tr[tr.length - 1 - i]'(by omega)) := List.getElem?_eq_getElem (by omega)
  have h1 := T.ixs _ _ hk
  have h2 := T.fnd_of (List.mem_of_getElem? hk)
  refine ⟨_, hk, by omega, ?_⟩
  rw [h1] at h2
  rw [show tr.length - 1 - (tr.length - 1 - i) = i by omega] at h2
  exact h2

theorem Tr.effs {tr : List Rec} {p fo : Nat} {cur : Mem} (T : Tr P call n0 m0 e0 eo om tr p cur fo) : (∀ (r : Rec) (q : Nat), r ∈ tr → r.kd = .eff q → q < p ∧ fne tr q = some r) ∧ ∀ q, q < p → ∃ r ∈ tr, r.kd = .eff q := by
  induction T with
  | nil => exact ⟨fun r q h => (by cases h), fun q h => by omega⟩
  | @eff tr p fo cur r0 T h1 h2 h3 h4 ih =>
    refine ⟨fun r q hr hk => ?_, fun q hq => ?_⟩
    · unfold fne
      rw [List.find?_cons]
      rcases List.mem_cons.1 hr with rfl | hr
      · obtain rfl : q = p := by rw [hk] at h4; cases h4; rfl
        have : isEff q r = true := by unfold isEff; rw [hk]; exact Nat.beq_refl _
        rw [this]
        exact ⟨Nat.lt_succ_self _, rfl⟩
      · obtain ⟨g1, g2⟩ := ih.1 r q hr hk
        have : isEff q r0 = false := by unfold isEff; rw [h4]; exact beq_no (by omega)
        rw [this]
        exact ⟨by omega, g2⟩
    · rcases Nat.lt_or_ge q p with h | h
      · obtain ⟨r, g1, g2⟩ := ih.2 q h
        exact ⟨r, .tail _ g1, g2⟩
      · have : q = p := by omega
        subst this
        exact ⟨r0, .head _, h4⟩
  | @oth tr p fo cur r0 T h1 h2 h3 h4 ih =>
    refine ⟨fun r q hr hk => ?_, fun q hq => ?_⟩
    · unfold fne
      rw [List.find?_cons]
      rcases List.mem_cons.1 hr with rfl | hr
      · exact absurd hk (h4 q)
      · have : isEff q r0 = false := by
          unfold isEff
          split
          · rename_i q' hq'; exact absurd hq' (h4 q')
          · rfl
        rw [this]
        exact ih.1 r q hr hk
    · obtain ⟨r, g1, g2⟩ := ih.2 q hq
      exact ⟨r, .tail _ g1, g2⟩

/-- What stood behind a part of it. -/
theorem Tr.split : ∀ {ext tr : List Rec} {p fo : Nat} {cur : Mem}, Tr P call n0 m0 e0 eo om (ext ++ tr) p cur fo → ∃ p' cur' fo', Tr P call n0 m0 e0 eo om tr p' cur' fo' ∧ p' ≤ p ∧ ∀ r ∈ ext, ∀ q, r.kd = .eff q → p' ≤ q
  | [], tr, p, fo, cur, T => ⟨p, cur, fo, T, Nat.le_refl _, fun r h => by cases h⟩
  | r0 :: ext, tr, p, fo, cur, T => by
    cases T with
    | eff T h1 h2 h3 h4 =>
      obtain ⟨p', cur', fo', g1, g2, g3⟩ := Tr.split (ext := ext) T
      refine ⟨p', cur', fo', g1, by omega, fun r hr q hk => ?_⟩
      rcases List.mem_cons.1 hr with rfl | hr
      · rw [h4] at hk; cases hk; exact g2
      · exact g3 r hr q hk
    | oth T h1 h2 h3 h4 =>
      obtain ⟨p', cur', fo', g1, g2, g3⟩ := Tr.split (ext := ext) T
      refine ⟨p', cur', fo', g1, g2, fun r hr q hk => ?_⟩
      rcases List.mem_cons.1 hr with rfl | hr
      · exact absurd hk (h4 q)
      · exact g3 r hr q hk

theorem Tr.of {tr : List Rec} {p fo : Nat} {cur : Mem} (T : Tr P call n0 m0 e0 eo om tr p cur fo) {r : Rec} (hr : r ∈ tr) :
    ∃ ext tr' p' cur' fo', tr = ext ++ r :: tr' ∧ Tr P call n0 m0 e0 eo om tr' p' cur' fo' ∧ r.ix = tr'.length ∧ r.env = envOf (has r.an) (oldE (om r.ix) eo ++ e0) tr' ∧ r.Ok P call n0 m0 tr' p' cur' fo' ∧ p' ≤ p ∧ ∀ x ∈ ext, ∀ q, x.kd = .eff q → p' ≤ q := by
  obtain ⟨ext, tr', rfl⟩ := List.append_of_mem hr
  obtain ⟨p', cur', fo', T', g2, g3⟩ := Tr.split (ext := ext) T
  cases T' with
  | eff T' h1 h2 h3 h4 => exact ⟨ext, tr', _, _, _, rfl, T', h1, h2, h3, by omega, fun x hx q hk => by have := g3 x hx q hk; omega⟩
  | oth T' h1 h2 h3 h4 => exact ⟨ext, tr', _, _, _, rfl, T', h1, h2, h3, g2, g3⟩

theorem fnd_ext {ext tr : List Rec} {p fo : Nat} {cur : Mem} (T : Tr P call n0 m0 e0 eo om (ext ++ tr) p cur fo) {i : Nat} (hi : i < tr.length) : fnd (ext ++ tr) i = fnd tr i := by
  obtain ⟨p', cur', fo', T', _, _⟩ := T.split
  obtain ⟨r, h1, h2, h3⟩ := T'.at hi
  have := T.fnd_of (List.mem_append_right ext (List.mem_of_getElem? h1))
  rw [h2] at this
  rw [this, h3]

theorem fne_ext {ext tr : List Rec} {p p' fo fo' : Nat} {cur cur' : Mem} (T : Tr P call n0 m0 e0 eo om (ext ++ tr) p cur fo) (T' : Tr P call n0 m0 e0 eo om tr p' cur' fo') {q : Nat} (hq : q < p') : fne (ext ++ tr) q = fne tr q := by
  obtain ⟨r, h1, h2⟩ := T'.effs.2 q hq
  rw [(T'.effs.1 r q h1 h2).2, (T.effs.1 r q (List.mem_append_right ext h1) h2).2]

theorem Tr.mm {tr : List Rec} {p fo : Nat} {cur : Mem} (T : Tr P call n0 m0 e0 eo om tr p cur fo) : (plOf n0 m0 tr).mm p = cur ∧ ∀ j, (plOf n0 m0 tr).fo p j = has fo j := by
  induction T with
  | nil => exact ⟨rfl, fun j => (has_zero j).symm⟩
  | @eff tr p fo cur r T h1 h2 h3 h4 ih =>
    have hf : fne (r :: tr) p = some r := by
      unfold fne
      rw [List.find?_cons]
      have : isEff p r = true := by unfold isEff; rw [h4]; exact Nat.beq_refl _
      rw [this]
    refine ⟨?_, fun j => ?_⟩
    · show (match fne (r :: tr) p with | some r => r.ma | none => m0) = _
      rw [hf]
    · show (match fne (r :: tr) p with | some r => has r.fo j | none => false) = _
      rw [hf]
  | @oth tr p fo cur r T h1 h2 h3 h4 ih =>
    have hf : ∀ q, fne (r :: tr) q = fne tr q := fun q => by
      unfold fne
      rw [List.find?_cons]
      have : isEff q r = false := by
        unfold isEff
        split
        · rename_i q' hq'; exact absurd hq' (h4 q')
        · rfl
      rw [this]
    cases p with
    | zero => exact ⟨ih.1, ih.2⟩
    | succ p =>
      refine ⟨?_, fun j => ?_⟩
      · show (match fne (r :: tr) p with | some r => r.ma | none => m0) = _
        rw [hf]; exact ih.1
      · show (match fne (r :: tr) p with | some r => has r.fo j | none => false) = _
        rw [hf]; exact ih.2 j

theorem mm_ext {ext tr : List Rec} {p p' fo fo' : Nat} {cur cur' : Mem} (T : Tr P call n0 m0 e0 eo om (ext ++ tr) p cur fo) (T' : Tr P call n0 m0 e0 eo om tr p' cur' fo') {q : Nat} (hq : q ≤ p') :
    (plOf n0 m0 (ext ++ tr)).mm q = (plOf n0 m0 tr).mm q ∧ ∀ j, (plOf n0 m0 (ext ++ tr)).fo q j = (plOf n0 m0 tr).fo q j := by
  cases q with
  | zero => exact ⟨rfl, fun _ => rfl⟩
  | succ q =>
    have := fne_ext T T' (q := q) (by omega)
    simp [plOf, this]

/-- Every memory that may be met is among those that were looked at. -/
theorem Tr.win {tr : List Rec} {p fo : Nat} {cur : Mem} (T : Tr P call n0 m0 e0 eo om tr p cur fo) {an q : Nat} (hq : q ≤ p) (hw : ∀ r ∈ tr, ∀ q', r.kd = .eff q' → has an r.ix = true → q' < q) : (plOf n0 m0 tr).mm q ∈ memsW an m0 tr := by
  induction T with
  | nil =>
    have : q = 0 := by omega
    subst this
    exact .head _
  | @eff tr p fo cur r T h1 h2 h3 h4 ih =>
    have T1 : Tr P call n0 m0 e0 eo om (r :: tr) (p + 1) r.ma r.fo := .eff T h1 h2 h3 h4
    rw [memsW_cons]
    rw [h4]
    simp only
    rcases Nat.lt_or_ge p q with h | h
    · have : q = p + 1 := by omega
      subst this
      rw [T1.mm.1]
      cases has an r.ix <;> exact .head _
    · have hn : has an r.ix = false := by
        cases hb : has an r.ix with
        | false => rfl
        | true => have := hw r (.head _) p h4 hb; omega
      rw [hn]
      have := (mm_ext (ext := [r]) (tr := tr) T1 T h).1
      rw [List.singleton_append] at this
      rw [this]
      exact .tail _ (ih h fun r' hr' => hw r' (.tail _ hr'))
  | @oth tr p fo cur r T h1 h2 h3 h4 ih =>
    have T1 : Tr P call n0 m0 e0 eo om (r :: tr) p cur fo := .oth T h1 h2 h3 h4
    have := (mm_ext (ext := [r]) (tr := tr) T1 T hq).1
    rw [List.singleton_append] at this
    rw [this]
    rw [memsW_cons]
    split
    · rename_i q' hq'; exact absurd hq' (h4 q')
    · exact ih hq fun r' hr' => hw r' (.tail _ hr')

theorem Tr.chain_eff {tr : List Rec} {p fo : Nat} {cur : Mem} (T : Tr P call n0 m0 e0 eo om tr p cur fo) {an : Nat} (hc : chain an tr = true) (hp : 0 < p) : ∃ r ∈ tr, r.kd = .eff (p - 1) ∧ has an r.ix = true := by
  induction T with
  | nil => omega
  | @eff tr p fo cur r T h1 h2 h3 h4 ih =>
    rw [chain_cons] at hc
    rw [h4] at hc
    exact ⟨r, .head _, h4, hc⟩
  | @oth tr p fo cur r T h1 h2 h3 h4 ih =>
    rw [chain_cons] at hc
    split at hc
    · rename_i q' hq'; exact absurd hq' (h4 q')
    · obtain ⟨r', g1, g2⟩ := ih hc hp
      exact ⟨r', .tail _ g1, g2⟩

/-- Number by number, or along the trace. -/
theorem Tr.range {tr : List Rec} {p fo : Nat} {cur : Mem} (T : Tr P call n0 m0 e0 eo om tr p cur fo) {β : Type} (g : Rec → Option β) :
    ((List.range tr.length).filterMap fun j => (fnd tr j).bind g).Perm (tr.filterMap g) := by
  have key : ∀ (tr : List Rec) (r : Rec), (∀ x ∈ tr, x.ix < tr.length) → r.ix = tr.length → ((List.range tr.length).filterMap fun j => (fnd tr j).bind g).Perm (tr.filterMap g) →
      ((List.range (r :: tr).length).filterMap fun j => (fnd (r :: tr) j).bind g).Perm ((r :: tr).filterMap g) := by
    intro tr r hlt hr ih
    rw [List.length_cons, List.range_succ, List.filterMap_append]
    have e1 : (List.range tr.length).filterMap (fun j => (fnd (r :: tr) j).bind g) = (List.range tr.length).filterMap fun j => (fnd tr j).bind g := filterMap_same fun j hj => by
      have := List.mem_range.1 hj
      have e2 : fnd (r :: tr) j = fnd tr j := by
        unfold fnd
        rw [List.find?_cons, beq_no (by omega)]
      rw [e2]
    have e3 : fnd (r :: tr) tr.length = some r := by
      unfold fnd
      rw [List.find?_cons, hr, Nat.beq_refl]
    rw [e1]
    refine List.perm_append_comm.trans ?_
    rw [List.filterMap_cons, List.filterMap_nil, e3, List.filterMap_cons]
    simp only [Option.bind_some]
    cases g r with
    | none => exact ih
    | some b => exact ih.cons b
  induction T with
  | nil => exact .refl _
  | eff T h1 h2 h3 h4 ih => exact key _ _ (fun x hx => T.lt hx) h1 ih
  | oth T h1 h2 h3 h4 ih => exact key _ _ (fun x hx => T.lt hx) h1 ih

end
end Go.K
end

section
/-
  A way to run code by reckoning (XV): a drawn region, reckoned: whole.
-/
namespace Go.K
open Go.Proofs.YtdppnaahdilkcaaGreatDoor.V

section
variable {P : Program} {call : CallF} {n0 : Nat} {m0 : Mem} {e0 eo : En} {om : Nat → Nat}

abbrev opsOf (tr : List Rec) : List Oper := tr.reverse.map (·.o)

theorem Tr.op_at {tr : List Rec} {p fo : Nat} {cur : Mem} (T : Tr P call n0 m0 e0 eo om tr p cur fo) {i : Nat} {o : Oper} (h : (opsOf tr).toArray[i]? = some o) : ∃ r, r ∈ tr ∧ r.ix = i ∧ r.o = o := by
  have hi : i < tr.length := by
    rcases Nat.lt_or_ge i tr.length with h1 | h1
    · exact h1
    · rw [Array.getElem?_eq_none (by simpa using h1)] at h; cases h
  obtain ⟨r, h1, h2, h3⟩ := T.at hi
  refine ⟨r, List.mem_of_getElem? h1, h2, ?_⟩
  simp only [List.getElem?_toArray, opsOf, List.getElem?_map, List.getElem?_reverse hi, h1, Option.map_some, Option.some.injEq] at h
  exact h

theorem Tr.at_op {tr : List Rec} {p fo : Nat} {cur : Mem} (T : Tr P call n0 m0 e0 eo om tr p cur fo) {r : Rec} (hr : r ∈ tr) : (opsOf tr).toArray[r.ix]? = some r.o := by
  have hi := T.lt hr
  obtain ⟨r', h1, h2, h3⟩ := T.at hi
  have := T.fnd_of hr
  rw [h3] at this
  cases this
  simp only [List.getElem?_toArray, opsOf, List.getElem?_map, List.getElem?_reverse hi, h1, Option.map_some]

theorem Tr.good [Obs] [Strm] {tr : List Rec} {p fo n sl : Nat} {cur : Mem} (T : Tr P call n0 m0 e0 eo om tr p cur fo) (hc : CallsOk P call) (hst : Stat n (tr.map fun r => (r.o, r.an)) sl) (he0 : ∀ d, has sl d = true → e0.get d = none) (hom : ∀ i d, has (om i) d = true → ∃ r ∈ tr, r.o.dst = some d ∧ has r.an i = true) (hnx : m0.nx = n0 + tr.length) :
    (plOf n0 m0 tr).Good P (opsOf tr).toArray n e0 eo where
  one i o ho := by
    obtain ⟨r, hr, rfl, rfl⟩ := T.op_at ho
    have hf := T.fnd_of hr
    obtain ⟨ext, tr', p', cur', fo', htr, T', hix, henv, hok, hp', hext⟩ := T.of hr
    subst htr
    obtain ⟨sl', st'⟩ := Stat.drop (ext := ext.map fun r => (r.o, r.an)) (q := (r :: tr').map fun r => (r.o, r.an)) (by rw [← List.map_append]; exact hst)
    obtain ⟨hm, hd⟩ := Stat.head st'
    obtain ⟨a1, a2⟩ := ancE_spec hm
    have han : ∀ j, (plOf n0 m0 (ext ++ r :: tr')).an r.ix j = has r.an j := fun j => by simp [plOf, hf]
    have hvl : ∀ x ∈ tr', (plOf n0 m0 (ext ++ r :: tr')).vl x.ix = x.vl := fun x hx => by
      have := T.fnd_of (r := x) (List.mem_append_right ext (.tail _ hx))
      simp [plOf, this]
    have hlen : ∀ e ∈ r.o.after.toList, Region.binds .any e = true → e.on < tr'.length := fun e he hb => by simpa using a1 e he hb
    have guard : ∀ {b : Bool}, guardV r.an tr' r.o.guard = some b → (r.o.guard = none ∧ b = true) ∨ ∃ j c x t, r.o.guard = some (j, c) ∧ has r.an j = true ∧ x ∈ tr' ∧ x.ix = j ∧ x.o.dst = some t ∧ ((∃ d, x.vl = some (.bool d) ∧ b = (d == c)) ∨ (x.vl = some (.tup []) ∧ b = false)) := by
      intro b hg
      unfold guardV at hg
      simp only [fndR_eq] at hg
      split at hg
      · rename_i h1; cases hg; exact .inl ⟨h1, rfl⟩
      · rename_i j c h1
        replace hg := bif_some hg; obtain ⟨h2, hg⟩ := hg
        split at hg
        · rename_i x hx
          obtain ⟨x1, x2⟩ := fnd_mem hx
          split at hg
          · rename_i t d ht hv
            cases hg
            exact .inr ⟨j, c, x, t, h1, h2, x1, x2, ht, .inl ⟨d, hv, by cases d <;> cases c <;> rfl⟩⟩
          · rename_i t ht hv
            cases hg
            exact .inr ⟨j, c, x, t, h1, h2, x1, x2, ht, .inr ⟨hv, rfl⟩⟩
          · cases hg
        · cases hg
    have slot : ∀ {x : Rec} {t : Nat}, x ∈ tr' → x.o.dst = some t → slotOf (opsOf (ext ++ r :: tr')).toArray x.ix = some t := fun {x t} hx ht => by
      unfold slotOf
      rw [T.at_op (List.mem_append_right ext (.tail _ hx)), Option.bind_some, ht]
    refine ⟨hd, fun j hj => ?_, fun e he hb => ?_, fun t v hv => ?_, fun x hx => ?_, ?_⟩
    · rw [han] at hj
      obtain ⟨e, h1, h2, h3⟩ := a2 j hj
      refine ⟨e, Array.mem_toList_iff.1 h1, h2, h3.imp_right ?_⟩
      rintro ⟨m', h4, h5⟩
      have hlt := hlen e h1 h2
      rw [List.getElem?_map, Option.map_eq_some_iff] at h4
      obtain ⟨y, hy, rfl⟩ := h4
      rw [List.getElem?_map, Option.map_eq_some_iff] at hy
      obtain ⟨x, hx, rfl⟩ := hy
      have hxi := T'.ixs _ x hx
      rw [List.length_map] at hxi
      have hxe : x.ix = e.on := by omega
      have := T.fnd_of (r := x) (List.mem_append_right ext (.tail _ (List.mem_of_getElem? hx)))
      rw [hxe] at this
      simp only [plOf, this]
      exact h5
    · rw [hix]
      exact hlen e (Array.mem_toList_iff.2 he) hb
    · have he : (plOf n0 m0 (ext ++ r :: tr')).env r.ix = envOf (has r.an) (oldE (om r.ix) eo ++ e0) tr' := by simp [plOf, hf, henv]
      rw [he] at hv
      rcases envOf_get hv with ⟨x, h1, h2, h3, h4⟩ | h1
      · exact .inl ⟨x.ix, x.o, by rw [han]; exact h2, T.at_op (List.mem_append_right ext (.tail _ h1)), h3, by rw [hvl x h1, h4]⟩
      · rcases En.get_app h1 with h1 | h1
        · obtain ⟨h2, h3⟩ := oldE_get h1
          obtain ⟨x, g1, g2, g3⟩ := hom _ _ h2
          exact .inr (.inr ⟨x.ix, x.o, by simp [plOf, T.fnd_of g1, g3], T.at_op g1, g2, h3⟩)
        · exact .inr (.inl h1)
    · have he : (plOf n0 m0 (ext ++ r :: tr')).env r.ix = envOf (has r.an) (oldE (om r.ix) eo ++ e0) tr' := by simp [plOf, hf, henv]
      rw [he] at hx
      rcases envOf_mem hx with ⟨y, h1, h2, h3, h4⟩ | h1
      · exact .inl ⟨y.ix, by rw [han]; exact h2, by rw [hvl y h1, h4]⟩
      · rcases List.mem_append.1 h1 with h1 | h1
        · exact .inr (.inr (oldE_mem h1))
        · exact .inr (.inl h1)
    · have hkd : (plOf n0 m0 (ext ++ r :: tr')).kd r.ix = r.kd := by simp [plOf, hf]
      have hvr : (plOf n0 m0 (ext ++ r :: tr')).vl r.ix = r.vl := by simp [plOf, hf]
      have hen : (plOf n0 m0 (ext ++ r :: tr')).env r.ix = r.env := by simp [plOf, hf]
      have T1 : Tr P call n0 m0 e0 eo om ((ext ++ [r]) ++ tr') p cur fo := by simpa using T
      have hmm : ∀ {q}, q ≤ p' → (plOf n0 m0 (ext ++ r :: tr')).mm q = (plOf n0 m0 tr').mm q ∧ ∀ j, (plOf n0 m0 (ext ++ r :: tr')).fo q j = (plOf n0 m0 tr').fo q j := fun {q} hq => by
        have := mm_ext T1 T' hq
        simpa using this
      rcases hok with ⟨hg, hact⟩ | ⟨hg, hk, hv⟩
      · refine .inl ⟨?_, ?_⟩
        · rcases guard hg with ⟨h1, _⟩ | ⟨j, c, x, t, h1, h2, h3, h4, h5, h6⟩
          · rw [h1]; trivial
          · rw [h1]
            refine ⟨t, by rw [han]; exact h2, by rw [← h4]; exact slot h3 h5, ?_⟩
            rcases h6 with ⟨d, h6, h7⟩ | ⟨_, h7⟩
            · have : d = c := (beq_iff_eq.1 h7.symm)
              rw [← h4, hvl x h3, h6, this]
            · cases h7
        · unfold Pl.act
          rw [hkd, hvr, hen]
          cases hk : r.kd with
          | val => rw [hk] at hact; exact hact
          | rd =>
            rw [hk] at hact
            obtain ⟨v, h1, h2⟩ := hact
            refine ⟨v, h1, fun q hw => ?_⟩
            rcases Nat.lt_or_ge p' q with hq | hq
            · -- behind a change that comes later in the text
              have hqp : q ≤ p ∨ p < q := by omega
              rcases hqp with hqp | hqp
              · obtain ⟨x, hx, hxk⟩ := T.effs.2 (q - 1) (by omega)
                have hxf := T.fnd_of hx
                have hwx := hw.2.1 x.ix (q - 1) (by simp [plOf, hxf, hxk]) (by omega)
                have hxan : has x.an r.ix = false := by simpa [plOf, hxf] using hwx
                obtain ⟨ext2, tr2, p2, cur2, fo2, htr2, T2, hix2, _, hok2, hp2, _⟩ := T.of hx
                have hne : (plOf n0 m0 (ext ++ r :: tr')).mm q = x.ma := by
                  obtain ⟨q0, rfl⟩ : ∃ q0, q = q0 + 1 := ⟨q - 1, by omega⟩
                  have := (T.effs.1 x q0 hx (by simpa using hxk)).2
                  simp [plOf, this]
                rcases hok2 with ⟨_, hact2⟩ | ⟨_, hk2, _⟩
                · rw [hxk] at hact2
                  obtain ⟨e1, e2, e3, e4, e5, e6, e7⟩ := hact2
                  -- r stands behind it in the list
                  have hrin : r ∈ tr2 := by
                    have hr2 : r ∈ ext2 ++ x :: tr2 := by rw [← htr2]; exact hr
                    have hlt : r.ix < x.ix := by
                      rcases Nat.lt_trichotomy r.ix x.ix with h | h | h
                      · exact h
                      · have := T.fnd_of hr
                        rw [h, hxf] at this
                        cases this
                        rw [hk] at hxk; cases hxk
                      · -- then x is in tr', and q - 1 < p'
                        have hxt : x ∈ tr' := by
                          rcases List.mem_append.1 hx with hx | hx
                          · obtain ⟨k, hkx⟩ := List.getElem?_of_mem hx
                            have h5 := T.ixs k x (by rw [List.getElem?_append_left (by
                              rcases Nat.lt_or_ge k ext.length with h | h
                              · exact h
                              · rw [List.getElem?_eq_none h] at hkx; cases hkx)]; exact hkx)
                            have : k < ext.length := by
                              rcases Nat.lt_or_ge k ext.length with h | h
                              · exact h
                              · rw [List.getElem?_eq_none h] at hkx; cases hkx
                            simp only [List.length_append, List.length_cons] at h5
                            omega
                          · rcases List.mem_cons.1 hx with rfl | hx
                            · omega
                            · exact hx
                        have := (T'.effs.1 x (q - 1) hxt hxk).1
                        omega
                    have hr3 := T2.lt (r := r)
                    rcases List.mem_append.1 hr2 with h | h
                    · obtain ⟨k, hkx⟩ := List.getElem?_of_mem h
                      have hkl : k < ext2.length := by
                        rcases Nat.lt_or_ge k ext2.length with h | h
                        · exact h
                        · rw [List.getElem?_eq_none h] at hkx; cases hkx
                      have h5 := T.ixs k r (by rw [htr2, List.getElem?_append_left hkl]; exact hkx)
                      have h6 : (ext ++ r :: tr').length = ext2.length + (tr2.length + 1) := by rw [htr2]; simp
                      omega
                    · rcases List.mem_cons.1 h with rfl | h
                      · omega
                      · exact h
                  have h7 := e7 r hrin
                  unfold rdOk at h7
                  rw [hk] at h7
                  simp only [hxan, cond_false] at h7
                  have hfo : has fo2 r.ix = false := by
                    cases hb : has fo2 r.ix with
                    | false => rfl
                    | true =>
                      -- then one of the changes ahead waits for it
                      have : ∀ {tr : List Rec} {p fo : Nat} {cur : Mem}, Tr P call n0 m0 e0 eo om tr p cur fo → ∀ j, has fo j = true → ∃ y ∈ tr, ∃ q', y.kd = .eff q' ∧ has y.an j = true := by
                        intro tr p fo cur T
                        induction T with
                        | nil => intro j hj; rw [has_zero] at hj; cases hj
                        | @eff tr p fo cur r0 T g1 g2 g3 g4 ih =>
                          intro j hj
                          rcases g3 with ⟨_, g3⟩ | ⟨_, g3, _⟩
                          · rw [g4] at g3
                            obtain ⟨_, _, _, _, _, g5, _⟩ := g3
                            rw [g5, has_or] at hj
                            rcases Bool.or_eq_true_iff.1 hj with hj | hj
                            · obtain ⟨y, y1, y2⟩ := ih j hj
                              exact ⟨y, .tail _ y1, y2⟩
                            · exact ⟨r0, .head _, p, g4, hj⟩
                          · rw [g4] at g3; cases g3
                        | oth T g1 g2 g3 g4 ih =>
                          intro j hj
                          obtain ⟨y, y1, y2⟩ := ih j hj
                          exact ⟨y, .tail _ y1, y2⟩
                      obtain ⟨y, y1, q', y2, y3⟩ := this T2 r.ix hb
                      have hym : y ∈ ext ++ r :: tr' := by rw [htr2]; exact List.mem_append_right _ (.tail _ y1)
                      have hyf := T.fnd_of hym
                      have hy4 := (T2.effs.1 y q' y1 y2).1
                      have := hw.2.1 y.ix q' (by simp [plOf, hyf, y2]) (by omega)
                      simp [plOf, hyf, y3] at this
                  rw [hfo] at h7
                  rw [hne, sameV_eq h7, h1]
                · rw [hxk] at hk2; cases hk2
              · -- there are not so many changes
                obtain ⟨j, hj⟩ := hw.2.2 p hqp
                simp only [plOf] at hj
                split at hj
                · rename_i y hy
                  obtain ⟨y1, y2⟩ := fnd_mem hy
                  have := (T.effs.1 y p y1 hj).1
                  omega
                · cases hj
            · rw [(hmm hq).1]
              refine h2 _ (T'.win hq fun x hx q' hxk hxa => ?_)
              have hxf := T.fnd_of (r := x) (List.mem_append_right ext (.tail _ hx))
              exact hw.1 x.ix q' (by simp [plOf, hxf, hxk]) (by rw [han]; exact hxa)
          | new blk => rw [hk] at hact; exact hact
          | eff q =>
            rw [hk] at hact
            obtain ⟨rfl, e2, e3, e4, e5, e6, e7⟩ := hact
            obtain ⟨f1, f2⟩ := T.effs.1 r _ hr hk
            have hmb : (plOf n0 m0 (ext ++ r :: tr')).mb q = r.mb := by simp [plOf, f2]
            have hma : (plOf n0 m0 (ext ++ r :: tr')).mm (q + 1) = r.ma := by simp [plOf, f2]
            have hfo1 : ∀ j, (plOf n0 m0 (ext ++ r :: tr')).fo (q + 1) j = has r.fo j := fun j => by simp [plOf, f2]
            have hcur : (plOf n0 m0 (ext ++ r :: tr')).mm q = cur' := by rw [(hmm (Nat.le_refl _)).1, T'.mm.1]
            have hmbn : r.mb.nx = cur'.nx := by rw [e3, foldN_nx]
            refine ⟨fun hq => ?_, by rw [hmb, hcur, hmbn], by rw [hma, hcur]; exact e5, fun j => ?_, fun S H F w hGl hk' hr' => ?_⟩
            · obtain ⟨x, x1, x2, x3⟩ := T'.chain_eff e2 hq
              have hxf := T.fnd_of (r := x) (List.mem_append_right ext (.tail _ x1))
              exact ⟨x.ix, by simp [plOf, hxf, x2], by rw [han]; exact x3⟩
            · rw [hfo1, han, (hmm (Nat.le_refl _)).2, T'.mm.2, e6, has_or]
            · rw [hmb] at hr'
              rw [hcur, ← hmbn] at hk' ⊢
              rw [hma]
              exact effC_spec hc hGl hr' e4 hk'
      · refine .inr ⟨by rw [hkd, hk], by rw [hvr, hv], ?_⟩
        rcases guard hg with ⟨_, h1⟩ | ⟨j, c, x, t, h1, h2, h3, h4, h5, h6⟩
        · cases h1
        · refine ⟨j, c, t, ?_⟩
          rcases h6 with ⟨d, h6, h7⟩ | ⟨h6, _⟩
          · refine ⟨.bool d, h1, by rw [han]; exact h2, by rw [← h4]; exact slot h3 h5, by rw [← h4, hvl x h3, h6], .inl ?_⟩
            cases d <;> cases c <;> first | rfl | cases h7
          · exact ⟨.tup [], h1, by rw [han]; exact h2, by rw [← h4]; exact slot h3 h5, by rw [← h4, hvl x h3, h6], .inr rfl⟩
  dsts i j o o' d hi hj hd hd' := by
    obtain ⟨r, hr, rfl, rfl⟩ := T.op_at hi
    obtain ⟨r', hr', rfl, rfl⟩ := T.op_at hj
    obtain ⟨k, hk⟩ := List.getElem?_of_mem hr
    obtain ⟨k', hk'⟩ := List.getElem?_of_mem hr'
    have := Stat.apart hst k k' (r.o, r.an) (r'.o, r'.an) d (by rw [List.getElem?_map, hk]; rfl) (by rw [List.getElem?_map, hk']; rfl) hd hd'
    subst this
    rw [hk] at hk'
    cases hk'
    rfl
  e0 i o d hi hd := by
    obtain ⟨r, hr, rfl, rfl⟩ := T.op_at hi
    exact he0 d ((Stat.slots hst d).2 ⟨(r.o, r.an), List.mem_map.2 ⟨r, hr, rfl⟩, hd⟩)
  effs i j q hi hj := by
    have key : ∀ i, (plOf n0 m0 tr).kd i = .eff q → ∃ r ∈ tr, r.ix = i ∧ r.kd = .eff q := fun i hi => by
      simp only [plOf] at hi
      split at hi
      · rename_i r hr
        obtain ⟨h1, h2⟩ := fnd_mem hr
        exact ⟨r, h1, h2, hi⟩
      · cases hi
    obtain ⟨r, h1, rfl, h3⟩ := key i hi
    obtain ⟨r', g1, rfl, g3⟩ := key j hj
    have := (T.effs.1 r q h1 h3).2
    rw [(T.effs.1 r' q g1 g3).2] at this
    cases this; rfl
  inn i q hi := by
    simp only [plOf] at hi
    split at hi
    · rename_i r hr
      obtain ⟨h1, rfl⟩ := fnd_mem hr
      have := T.lt h1
      simpa using this
    · cases hi
  fo0 j := rfl
  fold i q hi S H F w Lb hL hR := by
    have hi0 := hi
    simp only [plOf] at hi0
    split at hi0
    · rename_i r hf
      obtain ⟨hr, rfl⟩ := fnd_mem hf
      obtain ⟨f1, f2⟩ := T.effs.1 r q hr hi0
      obtain ⟨ext, tr', p', cur', fo', htr, T', hix, henv, hok, hp', hext⟩ := T.of hr
      subst htr
      rcases hok with ⟨_, hact⟩ | ⟨_, hk, _⟩
      · rw [hi0] at hact
        obtain ⟨rfl, e2, e3, e4, e5, e6, e7⟩ := hact
        have T1 : Tr P call n0 m0 e0 eo om ((ext ++ [r]) ++ tr') p cur fo := by simpa using T
        have hmm := mm_ext T1 T' (Nat.le_refl q)
        have hl1 : (ext ++ [r]) ++ tr' = ext ++ r :: tr' := by simp
        rw [hl1] at hmm
        have hcur : (plOf n0 m0 (ext ++ r :: tr')).mm q = cur' := by rw [hmm.1, T'.mm.1]
        have hmb : (plOf n0 m0 (ext ++ r :: tr')).mb q = r.mb := by simp [plOf, f2]
        rw [hcur] at hL hR
        rw [hmb, e3]
        obtain ⟨sl', st'⟩ := Stat.drop (ext := ext.map fun r => (r.o, r.an)) (q := (r :: tr').map fun r => (r.o, r.an)) (by rw [← List.map_append]; exact hst)
        have hlt := Stat.lt st' 0 (r.o, r.an)
        have han : ∀ j, (plOf n0 m0 (ext ++ r :: tr')).an r.ix j = has r.an j := fun j => by simp [plOf, hf]
        have hperm : ((List.range (opsOf (ext ++ r :: tr')).toArray.size).filterMap ((plOf n0 m0 (ext ++ r :: tr')).fb r.ix q)).Perm (tr'.filterMap (newB n0 fun x => has r.an x.ix && !has fo' x.ix)) := by
          have hs : (opsOf (ext ++ r :: tr')).toArray.size = tr'.length + (ext.length + 1) := by
            simp only [opsOf, List.size_toArray, List.length_map, List.length_reverse, List.length_append, List.length_cons]; omega
          rw [hs, List.range_add, List.filterMap_append]
          have e8 : (List.map (fun x => tr'.length + x) (List.range (ext.length + 1))).filterMap ((plOf n0 m0 (ext ++ r :: tr')).fb r.ix q) = [] := by
            rw [List.filterMap_eq_nil_iff]
            intro j hj
            obtain ⟨k, _, rfl⟩ := List.mem_map.1 hj
            unfold Pl.fb
            have : has r.an (tr'.length + k) = false := by
              cases hb : has r.an (tr'.length + k) with
              | false => rfl
              | true => have := hlt (tr'.length + k) rfl hb; simp at this; omega
            rw [han, this]
            split <;> rfl
          rw [e8, List.append_nil]
          refine List.Perm.trans ?_ (T'.range (newB n0 fun x => has r.an x.ix && !has fo' x.ix))
          refine List.Perm.of_eq (filterMap_same fun j hj => ?_)
          have hj := List.mem_range.1 hj
          obtain ⟨x, x1, x2, x3⟩ := T'.at hj
          have hxf := T.fnd_of (r := x) (List.mem_append_right ext (.tail _ (List.mem_of_getElem? x1)))
          rw [x2] at hxf
          rw [x3]
          unfold Pl.fb newB
          rw [han]
          have hkd : (plOf n0 m0 (ext ++ r :: tr')).kd j = x.kd := by simp [plOf, hxf]
          have hfo : (plOf n0 m0 (ext ++ r :: tr')).fo q j = has fo' j := by rw [hmm.2, T'.mm.2]
          rw [hkd, hfo]
          simp only [Option.bind_some, x2]
          cases x.kd <;> rfl
        obtain ⟨L', hL', h'⟩ := hL.perm hperm
        exact foldN_spec rfl h' (hR.permF (hL'.append_right F))
      · rw [hi0] at hk; cases hk
    · cases hi0
  nx := by
    show m0.nx = n0 + _
    rw [hnx]; simp

end
end Go.K
end

section
/-
  A way to run code by reckoning (XVI): functions, whole.
-/
namespace Go.K
open Go.Proofs.YtdppnaahdilkcaaGreatDoor.V

/-! ## A drawn region -/

structure Dst where
  tr : List Rec
  p : Nat
  cur : Mem
  fo : Nat

noncomputable def deff (P : Program) (call : CallF) (o : Oper) (an i : Nat) (s : Dst) (env : En) (mb : Mem) : Option Dst := match effC P call env mb o.op with
  | some (ov, ma) => bif chain an s.tr && Nat.ble s.cur.nx ma.nx && allR (rdOk P an s.fo ma) s.tr then some ⟨⟨i, an, o, env, ov, .eff s.p, mb, ma, Nat.lor s.fo an⟩ :: s.tr, s.p + 1, ma, Nat.lor s.fo an⟩ else none
  | none => none

noncomputable def dact (P : Program) (call : CallF) (n0 : Nat) (m0 : Mem) (o : Oper) (an i : Nat) (s : Dst) (env : En) : Option Dst := match opV P env o.op with
  | some v => some ⟨⟨i, an, o, env, some v, .val, m0, m0, 0⟩ :: s.tr, s.p, s.cur, s.fo⟩
  | none => match readM P env s.cur o.op with
    | some v => bif allR (fun M => sameV (readM P env M o.op) (some v)) (memsW an m0 s.tr) then some ⟨⟨i, an, o, env, some v, .rd, m0, m0, 0⟩ :: s.tr, s.p, s.cur, s.fo⟩ else none
    | none => match newV P env (n0 + i) o.op with
      | some (v, blk) => some ⟨⟨i, an, o, env, some v, .new blk, m0, m0, 0⟩ :: s.tr, s.p, s.cur, s.fo⟩
      | none => deff P call o an i s env (foldN n0 (fun x => has an x.ix && !has s.fo x.ix) s.tr s.cur)

noncomputable def dstep (P : Program) (call : CallF) (n0 : Nat) (m0 : Mem) (e0 eo : En) (om : Nat) (o : Oper) (an i : Nat) (s : Dst) : Option Dst := match guardV an s.tr o.guard with
  | some true => dact P call n0 m0 o an i s (envOf (has an) (appR (oldE om eo) e0) s.tr)
  | some false => some ⟨⟨i, an, o, envOf (has an) (appR (oldE om eo) e0) s.tr, some (.tup []), .val, m0, m0, 0⟩ :: s.tr, s.p, s.cur, s.fo⟩
  | none => none

/-- The slots that i may still read as they were: whoever writes them waits for i. -/
noncomputable def oldM (i : Nat) (l : List (Oper × Nat)) : Nat := List.rec (motive := fun _ => Nat) 0 (fun x _ ih => bif has x.2 i then (match x.1.dst with
      | some d => Nat.lor (Nat.shiftLeft 1 d) ih
      | none => ih) else ih) l
theorem oldM_cons {i : Nat} {o : Oper} {an : Nat} {r : List (Oper × Nat)} : oldM i ((o, an) :: r) = bif has an i then (match o.dst with
      | some d => Nat.lor (Nat.shiftLeft 1 d) (oldM i r)
      | none => oldM i r) else oldM i r := rfl

theorem oldM_spec {i d : Nat} : ∀ {q : List (Oper × Nat)}, has (oldM i q) d = true → ∃ x ∈ q, x.1.dst = some d ∧ has x.2 i = true
  | [], h => by rw [show oldM i [] = 0 from rfl, has_zero] at h; cases h
  | (o, an) :: r, h => by
    have rest : has (oldM i r) d = true → ∃ x ∈ (o, an) :: r, x.1.dst = some d ∧ has x.2 i = true := fun h => by
      obtain ⟨x, h1, h2⟩ := oldM_spec (q := r) h
      exact ⟨x, .tail _ h1, h2⟩
    rw [oldM_cons] at h
    cases ha : has an i with
    | false => rw [ha] at h; exact rest h
    | true =>
      rw [ha] at h
      simp only [cond_true] at h
      split at h
      · rename_i d' hd
        rw [has_or, has_one] at h
        rcases Bool.or_eq_true_iff.1 h with h | h
        · exact ⟨_, .head _, by rw [← Nat.eq_of_beq_eq_true h]; exact hd, ha⟩
        · exact rest h
      · exact rest h

noncomputable def dsteps (P : Program) (call : CallF) (n0 : Nat) (m0 : Mem) (e0 eo : En) (qq l : List (Oper × Nat)) : Nat → Dst → Option Dst :=
  List.rec (motive := fun _ => Nat → Dst → Option Dst) (fun _ s => some s) (fun x _ ih i s => match dstep P call n0 m0 e0 eo (oldM i qq) x.1 x.2 i s with
    | some s' => ih (Nat.succ i) s'
    | none => none) l
theorem dsteps_cons {P : Program} {call : CallF} {n0 : Nat} {m0 : Mem} {e0 eo : En} {qq r : List (Oper × Nat)} {o : Oper} {an i : Nat} {s : Dst} : dsteps P call n0 m0 e0 eo qq ((o, an) :: r) i s = match dstep P call n0 m0 e0 eo (oldM i qq) o an i s with
    | some s' => dsteps P call n0 m0 e0 eo qq r (i + 1) s'
    | none => none := rfl

/-- The frame, each slot once, less those that are marked. -/
noncomputable def cleanE (seen : Nat) (l : En) : En := List.rec (motive := fun _ => Nat → En) (fun _ => []) (fun p _ ih seen => bif has seen p.1 then ih seen else p :: ih (Nat.lor seen (Nat.shiftLeft 1 p.1))) l seen
theorem cleanE_cons {seen t : Nat} {v : V} {r : En} : cleanE seen ((t, v) :: r) = bif has seen t then cleanE seen r else (t, v) :: cleanE (Nat.lor seen (Nat.shiftLeft 1 t)) r := rfl

noncomputable def drawV (P : Program) (call : CallF) (n : Nat) (ops : Array Oper) (e : En) (M : Mem) : Option (En × Mem) := match statR n ops.toList 0 [] [] 0 with
  | none => none
  | some (q, sl) => match dsteps P call M.nx ⟨M.tr, M.nx + lenR q⟩ (cleanE sl e) (oldE sl e) q (revR q []) 0 ⟨[], 0, ⟨M.tr, M.nx + lenR q⟩, 0⟩ with
    | some s => some (envOf (fun _ => true) (cleanE sl e) s.tr, foldN M.nx (fun x => !has s.fo x.ix) s.tr s.cur)
    | none => none

theorem cleanE_get : ∀ {e : En} {seen t : Nat} {v : V}, (cleanE seen e).get t = some v → has seen t = false ∧ e.get t = some v
  | [], _, _, _, h => by cases h
  | (k, u) :: r, seen, t, v, h => by
    rw [cleanE_cons] at h
    cases hs : has seen k with
    | true =>
      rw [hs] at h
      obtain ⟨h1, h2⟩ := cleanE_get (e := r) h
      refine ⟨h1, ?_⟩
      rw [En.get_cons]
      have : Nat.beq k t = false := by
        cases hb : Nat.beq k t with
        | false => rfl
        | true => rw [Nat.eq_of_beq_eq_true hb, h1] at hs; cases hs
      rw [this]; exact h2
    | false =>
      rw [hs] at h
      simp only [cond_false] at h
      rw [En.get_cons] at h ⊢
      cases hb : Nat.beq k t with
      | true =>
        rw [hb] at h
        exact ⟨by rw [← Nat.eq_of_beq_eq_true hb]; exact hs, h⟩
      | false =>
        rw [hb] at h
        obtain ⟨h1, h2⟩ := cleanE_get (e := r) h
        rw [has_or] at h1
        exact ⟨(Bool.or_eq_false_iff.1 h1).1, h2⟩

theorem cleanE_mem : ∀ {e : En} {seen : Nat} {x : Nat × V}, x ∈ cleanE seen e → x ∈ e
  | [], _, _, h => h
  | (k, u) :: r, seen, x, h => by
    rw [cleanE_cons] at h
    cases hs : has seen k with
    | true => rw [hs] at h; exact .tail _ (cleanE_mem (e := r) h)
    | false =>
      rw [hs] at h
      simp only [cond_false] at h
      rcases List.mem_cons.1 h with rfl | h
      · exact .head _
      · exact .tail _ (cleanE_mem (e := r) h)

theorem cleanE_ok {e : En} {seen : Nat} {n : Dm} (h : e.ok n) : (cleanE seen e).ok n := En.ok_iff.2 fun x hx => En.ok_iff.1 h x (cleanE_mem hx)

section
variable {P : Program} {call : CallF} {n0 : Nat} {m0 : Mem} {e0 eo : En} {qq : List (Oper × Nat)}

theorem dstep_spec {o : Oper} {an i : Nat} {s s' : Dst} (h : dstep P call n0 m0 e0 eo (oldM i qq) o an i s = some s') (T : Tr P call n0 m0 e0 eo (fun i => oldM i qq) s.tr s.p s.cur s.fo) (hi : i = s.tr.length) :
    Tr P call n0 m0 e0 eo (fun i => oldM i qq) s'.tr s'.p s'.cur s'.fo ∧ ∃ r, s'.tr = r :: s.tr ∧ r.o = o ∧ r.an = an := by
  unfold dstep at h
  rw [appR_eq] at h
  split at h
  · rename_i hg
    unfold dact at h
    simp only [allR_eq] at h
    split at h
    · rename_i v hv
      cases h
      exact ⟨.oth T hi rfl (.inl ⟨hg, v, rfl, hv⟩) nofun, _, rfl, rfl, rfl⟩
    · split at h
      · rename_i v hv
        replace h := bif_some h; obtain ⟨ha, h⟩ := h
        cases h
        refine ⟨.oth T hi rfl (.inl ⟨hg, v, rfl, fun M hM => ?_⟩) nofun, _, rfl, rfl, rfl⟩
        exact sameV_eq (List.all_eq_true.1 ha M hM)
      · split at h
        · rename_i v blk hv
          cases h
          exact ⟨.oth T hi rfl (.inl ⟨hg, v, rfl, hv⟩) nofun, _, rfl, rfl, rfl⟩
        · unfold deff at h
          simp only [allR_eq] at h
          split at h
          · rename_i ov ma hv
            replace h := bif_some h; obtain ⟨ha, h⟩ := h
            cases h
            simp only [Bool.and_eq_true] at ha
            exact ⟨.eff (r := ⟨i, an, o, envOf (has an) (oldE (oldM i qq) eo ++ e0) s.tr, ov, .eff s.p, _, ma, Nat.lor s.fo an⟩) T hi rfl (.inl ⟨hg, rfl, ha.1.1, rfl, hv, Nat.le_of_ble_eq_true ha.1.2, rfl, fun x hx => List.all_eq_true.1 ha.2 x hx⟩) rfl, _, rfl, rfl, rfl⟩
          · cases h
  · rename_i hg
    cases h
    exact ⟨.oth T hi rfl (.inr ⟨hg, rfl, rfl⟩) nofun, _, rfl, rfl, rfl⟩
  · cases h

theorem dsteps_spec : ∀ {q : List (Oper × Nat)} {i : Nat} {s s' : Dst}, dsteps P call n0 m0 e0 eo qq q i s = some s' → Tr P call n0 m0 e0 eo (fun i => oldM i qq) s.tr s.p s.cur s.fo → i = s.tr.length →
    Tr P call n0 m0 e0 eo (fun i => oldM i qq) s'.tr s'.p s'.cur s'.fo ∧ (s'.tr.reverse.map fun r => (r.o, r.an)) = (s.tr.reverse.map fun r => (r.o, r.an)) ++ q
  | [], i, s, s', h, T, _ => by cases h; exact ⟨T, by simp⟩
  | (o, an) :: q, i, s, s', h, T, hi => by
    rw [dsteps_cons] at h
    split at h
    · rename_i s1 h1
      obtain ⟨T1, r, h2, h3, h4⟩ := dstep_spec h1 T hi
      obtain ⟨T2, h5⟩ := dsteps_spec h T1 (by rw [h2, List.length_cons, hi])
      refine ⟨T2, ?_⟩
      rw [h5, h2]
      simp [h3, h4]
    · cases h

theorem drawV_spec [Obs] [Strm] (hc : CallsOk P call) (hm : P.follows .mixedOrders = true) {C : Ctx} {R : Ending → World → Prop} {k : List Item} {n id : Nat} {ops : Array Oper} {e e' : En} {M M' : Mem} (hro : C.ro = none) (h : drawV P call n ops e M = some (e', M'))
    {S : Si} {H : Dm} {F : List (Nat × Obj)} {w : World} (hGl : Obs.glob F) (hk : e.ok (dom H M.nx)) (hR : Rel S H M F w)
    (hfin : ∀ S' w', Agree (dom H M.nx) S S' → M.nx ≤ M'.nx → e'.ok (dom H M'.nx) → Rel S' H M' F w' → RunsE P C R n k (e'.conc S') w') :
    RunsE P C R n (.code (.region id ops true) :: k) (e.conc S) w := by
  unfold drawV at h
  simp only [lenR_eq, revR_eq, List.append_nil] at h
  split at h
  · cases h
  · rename_i q sl hst
    obtain ⟨st1, st2⟩ := statR_spec hst .nil rfl rfl
    split at h
    · rename_i s hs
      cases h
      obtain ⟨T, hq⟩ := dsteps_spec hs .nil rfl
      simp only [List.reverse_nil, List.map_nil, List.nil_append] at hq st2
      have hq2 : (s.tr.map fun r => (r.o, r.an)) = q := by
        have := congrArg List.reverse hq
        simpa using this
      have hl : ops.toList = opsOf s.tr := by
        rw [← st2, ← hq]
        simp
      have hops : ops = (opsOf s.tr).toArray := by rw [← hl]
      have hlen : s.tr.length = q.length := by rw [← hq2]; simp
      have hlen2 : (opsOf s.tr).length = q.length := by simp [opsOf, hlen]
      have G := T.good hc (hq2 ▸ st1) (fun d hd => by
        cases hg : (cleanE sl e).get d with
        | none => rfl
        | some v => have := (cleanE_get hg).1; rw [hd] at this; cases this) (fun i d h => by
        obtain ⟨x, h1, h2, h3⟩ := oldM_spec h
        rw [← hq2] at h1
        obtain ⟨r, g1, rfl⟩ := List.mem_map.1 h1
        exact ⟨r, g1, h2, h3⟩) (by rw [hlen])
      have hop : ∀ j (o : Oper), (opsOf s.tr)[j]? = some o → ∃ r, r ∈ s.tr ∧ r.ix = j ∧ r.o = o := fun j o h => T.op_at (by simpa using h)
      have hvl : ∀ r ∈ s.tr, (plOf M.nx ⟨M.tr, M.nx + q.length⟩ s.tr).vl r.ix = r.vl := fun r hr => by simp [plOf, T.fnd_of hr]
      rw [hops]
      refine RunsE.drawK (pN := s.p) (ef := envOf (fun _ => true) (cleanE sl e) s.tr) G (cleanE_ok hk) (En.ok_iff.2 fun x hx => En.ok_iff.1 hk x (oldE_mem hx)) hGl hm hro (fun t v hv => (cleanE_get hv).2) (fun t v hv => (oldE_get hv).2) hk (fun p => ?_) (fun t v hv => ?_) (fun x hx => ?_) ⟨?_, fun S F w Lb hLb hRb => ?_⟩ M ?_ rfl hR hfin
      · constructor
        · rintro ⟨j, hj⟩
          simp only [plOf] at hj
          split at hj
          · rename_i r hr
            exact (T.effs.1 r p (fnd_mem hr).1 hj).1
          · cases hj
        · intro hp
          obtain ⟨r, h1, h2⟩ := T.effs.2 p hp
          exact ⟨r.ix, by simp [plOf, T.fnd_of h1, h2]⟩
      · refine (envOf_get hv).imp_left ?_
        rintro ⟨r, h1, _, h3, h4⟩
        exact ⟨r.ix, r.o, by simpa using T.at_op h1, h3, by rw [hvl r h1, h4]⟩
      · refine (envOf_mem hx).imp_left ?_
        rintro ⟨r, h1, _, h3, h4⟩
        exact ⟨r.ix, by rw [hlen2, ← hlen]; exact T.lt h1, by rw [hvl r h1, h4]⟩
      · rw [foldN_nx, T.mm.1]
      · rw [T.mm.1] at hLb hRb
        have hperm : ((List.range (opsOf s.tr).length).filterMap ((plOf M.nx ⟨M.tr, M.nx + q.length⟩ s.tr).fn s.p)).Perm (s.tr.filterMap (newB M.nx fun x => !has s.fo x.ix)) := by
          rw [show List.range (opsOf s.tr).length = List.range s.tr.length by rw [hlen2, hlen]]
          refine List.Perm.trans ?_ (T.range (newB M.nx fun x => !has s.fo x.ix))
          refine List.Perm.of_eq (filterMap_same fun j hj => ?_)
          have hj := List.mem_range.1 hj
          obtain ⟨x, x1, x2, x3⟩ := T.at hj
          rw [x3]
          unfold Pl.fn newB
          have hkd : (plOf M.nx ⟨M.tr, M.nx + q.length⟩ s.tr).kd j = x.kd := by simp [plOf, x3]
          rw [hkd, T.mm.2]
          simp only [Option.bind_some, x2]
          cases x.kd <;> rfl
        obtain ⟨L', hL', h'⟩ := hLb.perm hperm
        exact foldN_spec rfl h' (hRb.permF (hL'.append_right F))
      · rw [hlen2]; rfl
    · cases h

end

/-! ## A region in the text's order -/

noncomputable def stepV (P : Program) (call : CallF) (e : En) (M : Mem) (op : Op) : Option (Option V × Mem) := match opV P e op with
  | some v => some (some v, M)
  | none => match readM P e M op with
    | some v => some (some v, M)
    | none => match newV P e M.nx op with
      | some (v, blk) => some (some v, M.new blk 1)
      | none => effC P call e M op

theorem stepV_spec [Obs] [Strm] {P : Program} {call : CallF} (hc : CallsOk P call) {S : Si} {H : Dm} {M M' : Mem} {F : List (Nat × Obj)} (hG : Obs.glob F) {w : World} {e : En} {op : Op} {ty : TypeId} {o : Option V} (hr : Rel S H M F w) (h : stepV P call e M op = some (o, M')) (hk : e.ok (dom H M.nx)) :
    Ex P w (e.conc S) op ty (Post S H M.nx F o M') := by
  unfold stepV at h
  split at h
  · rename_i v hv
    cases h
    obtain ⟨h1, h2⟩ := opV_spec (w := w) (ty := ty) hv hk S
    refine h1.ex.mono ?_
    rintro _ _ ⟨rfl, rfl⟩
    exact ⟨S, .refl _ _, Nat.le_refl _, fun v' hv' => by cases hv'; exact ⟨rfl, h2⟩, hr⟩
  · split at h
    · rename_i v hv
      cases h
      obtain ⟨h1, h2⟩ := readM_spec (ty := ty) hr hv hk
      refine h1.ex.mono ?_
      rintro _ _ ⟨rfl, rfl⟩
      exact ⟨S, .refl _ _, Nat.le_refl _, fun v' hv' => by cases hv'; exact ⟨rfl, h2⟩, hr⟩
    · split at h
      · cases h
        exact newV_post hr ‹_› hk
      · exact effC_spec hc hG hr h hk

noncomputable def guardS (ops : Array Oper) (e : En) : Option (Nat × Bool) → Option Bool
  | none => some true
  | some (j, b) => match slotOf ops j with
    | none => none
    | some t => match e.get t with
      | some (.bool c) => some (bif c then b else !b)
      | some (.tup []) => some false
      | _ => none

noncomputable def thenK (cont : En → Mem → Option (En × Mem)) (n : Nat) (dst : Option Nat) (e : En) : Option (Option V × Mem) → Option (En × Mem)
  | none => none
  | some (ov, M) => match dst with
    | none => cont e M
    | some d => match ov with
      | some v => bif Nat.blt d n then cont ((d, v) :: e) M else none
      | none => none

noncomputable def seqV (P : Program) (call : CallF) (n : Nat) (ops : Array Oper) (l : List Oper) : En → Mem → Option (En × Mem) :=
  List.rec (motive := fun _ => En → Mem → Option (En × Mem)) (fun e M => some (e, M)) (fun o _ ih e M => match guardS ops e o.guard with
    | none => none
    | some false => (match o.dst with
      | none => ih e M
      | some d => bif Nat.blt d n then ih ((d, .tup []) :: e) M else none)
    | some true => thenK ih n o.dst e (stepV P call e M o.op)) l
theorem seqV_cons {P : Program} {call : CallF} {n : Nat} {ops : Array Oper} {o : Oper} {r : List Oper} {e : En} {M : Mem} : seqV P call n ops (o :: r) e M = match guardS ops e o.guard with
    | none => none
    | some false => (match o.dst with
      | none => seqV P call n ops r e M
      | some d => bif Nat.blt d n then seqV P call n ops r ((d, .tup []) :: e) M else none)
    | some true => thenK (seqV P call n ops r) n o.dst e (stepV P call e M o.op) := rfl

theorem seqV_spec [Obs] [Strm] {P : Program} {call : CallF} (hc : CallsOk P call) {C : Ctx} {R : Ending → World → Prop} {k : List Item} {n : Nat} {ops : Array Oper} {H : Dm} {F : List (Nat × Obj)} (hG : Obs.glob F) :
    ∀ {l : List Oper} {e e' : En} {M M' : Mem}, seqV P call n ops l e M = some (e', M') → ∀ {S : Si} {w : World}, e.ok (dom H M.nx) → Rel S H M F w →
    (∀ S' w', Agree (dom H M.nx) S S' → M.nx ≤ M'.nx → e'.ok (dom H M'.nx) → Rel S' H M' F w' → RunsE P C R n k (e'.conc S') w') → OpsE P C R k ops n l (e.conc S) w
  | [], e, e', M, M', h, S, w, hk, hR, hfin => by
    cases h
    exact .nil (hfin S w (.refl _ _) (Nat.le_refl _) hk hR)
  | ⟨dst, op, ty, pos, af, gd⟩ :: l, e, e', M, M', h, S, w, hk, hR, hfin => by
    rw [seqV_cons] at h
    have act : thenK (seqV P call n ops l) n dst e (stepV P call e M op) = some (e', M') → OpsE P C R k ops n (⟨dst, op, ty, pos, af, none⟩ :: l) (e.conc S) w := by
      intro h
      cases hs : stepV P call e M op with
      | none => rw [hs] at h; cases h
      | some x =>
        obtain ⟨ov, M1⟩ := x
        rw [hs] at h
        simp only [thenK] at h
        have hex := stepV_spec (ty := ty) hc hG hR hs hk
        have env : ∀ S', Agree (dom H M.nx) S S' → e.conc S' = e.conc S := fun S' ha => En.conc_agree ha e hk
        split at h
        · refine .exn hex ?_
          rintro u w' ⟨S', s1, s2, s3, s4⟩
          rw [← env S' s1]
          exact seqV_spec hc hG h (En.ok_le (dom_le s2) _ hk) s4 fun S'' w'' g1 g2 g3 g4 => hfin S'' w'' (s1.trans g1 (dom_le s2)) (Nat.le_trans s2 g2) g3 g4
        · split at h
          case h_2 => cases h
          replace h := bif_some h; obtain ⟨hd, h⟩ := h
          refine .ex hex hd ?_
          rintro u w' ⟨S', s1, s2, s3, s4⟩
          obtain ⟨rfl, hv⟩ := s3 _ rfl
          rw [← env S' s1]
          exact seqV_spec hc hG h (S := S') ⟨hv, En.ok_le (dom_le s2) _ hk⟩ s4 fun S'' w'' g1 g2 g3 g4 => hfin S'' w'' (s1.trans g1 (dom_le s2)) (Nat.le_trans s2 g2) g3 g4
    cases gd with
    | none =>
      simp only [guardS] at h
      exact act h
    | some jb =>
      obtain ⟨j, b⟩ := jb
      simp only [guardS] at h
      cases hs : slotOf ops j with
      | none => rw [hs] at h; cases h
      | some t =>
        rw [hs] at h
        simp only at h
        cases hg : e.get t with
        | none => rw [hg] at h; cases h
        | some u =>
          obtain ⟨hg', _⟩ := En.get_conc (S := S) hg hk
          rw [hg] at h
          cases u with
          | bool c =>
            simp only at h
            have hcb : (bif c then b else !b) = (c == b) := by cases c <;> cases b <;> rfl
            rw [hcb] at h
            cases hq : (c == b) with
            | true =>
              rw [hq] at h
              simp only at h
              have : c = b := by simpa using hq
              subst this
              exact .yes hs hg' (act h)
            | false =>
              rw [hq] at h
              simp only at h
              have hn : c = !b := by cases c <;> cases b <;> first | rfl | cases hq
              subst hn
              cases dst with
              | none => exact .non hs hg' (seqV_spec hc hG h hk hR hfin)
              | some d =>
                simp only at h
                replace h := bif_some h; obtain ⟨hd, h⟩ := h
                exact .no hs hg' hd (seqV_spec hc hG h (S := S) ⟨True.intro, hk⟩ hR hfin)
          | tup vs =>
            cases vs with
            | nil =>
              simp only at h
              cases dst with
              | none => exact .offn hs hg' (seqV_spec hc hG h hk hR hfin)
              | some d =>
                simp only at h
                replace h := bif_some h; obtain ⟨hd, h⟩ := h
                exact .off hs hg' hd (seqV_spec hc hG h (S := S) ⟨True.intro, hk⟩ hR hfin)
            | cons => cases h
          | _ => cases h

/-! ## Results -/

noncomputable def resL (P : Program) (e : En) (M : Mem) : List ResultVar → Option (List V)
  | [] => some []
  | .tmp t :: r => (match e.get t, resL P e M r with
    | some v, some vs => some (v :: vs)
    | _, _ => none)
  | .cell a t :: r => (match e.get a, resL P e M r with
    | some u, some vs => (match loadV P M t u with
      | some v => some (v :: vs)
      | none => none)
    | _, _ => none)

noncomputable def resV (P : Program) (e : En) (M : Mem) (l : List ResultVar) : Option V := match resL P e M l with
  | some [v] => some v
  | some vs => some (.tup vs)
  | none => none

end Go.K
end

section
/-
  A way to run code by reckoning (XVII): calls of calls.
-/
namespace Go.K
open Go.Proofs.YtdppnaahdilkcaaGreatDoor.V

/-- No function bears the one name that the model answers by itself. -/
def NoNum (P : Program) : Prop := (P.funcs.toList.all fun fn => !(fn.name == "runtime.NumGoroutine")) = true

/-- A function that can be entered. -/
noncomputable def funT (P : Program) (f : FuncId) : Option Func := match P.funcs[f]? with
  | some fn => Bool.rec (motive := fun _ => Option Func) none (some fn) fn.body.isSome
  | none => none

theorem funT_spec {P : Program} (hn : NoNum P) {f : FuncId} {fn : Func} (h : funT P f = some fn) : P.funcs[f]? = some fn ∧ ∀ args w, (callFunc f args).run P w = .ok (.enter f args) w := by
  unfold funT at h
  split at h
  · rename_i fn' hf
    rw [brec] at h
    replace h := bif_some h; obtain ⟨hb, h⟩ := h
    cases h
    refine ⟨hf, fun args w => ?_⟩
    have h1 : (fn.name == "runtime.NumGoroutine") = false := by
      have := List.all_eq_true.1 hn fn (Array.mem_toList_iff.2 (Array.mem_of_getElem? hf))
      simpa using this
    have h2 : fn.body.isNone = false := by
      cases hbo : fn.body with
      | none => rw [hbo] at hb; cases hb
      | some c => rfl
    simp only [callFunc, Sem.run_bind, run_program, Result.andThen, hf, h1, h2, Bool.false_eq_true, if_false, Sem.run_pure]
  · cases h

noncomputable def argsE (i : Nat) (l : List V) : En := List.rec (motive := fun _ => Nat → En) (fun _ => []) (fun v _ ih i => (i, v) :: ih (Nat.succ i)) l i
theorem argsE_cons {i : Nat} {v : V} {r : List V} : argsE i (v :: r) = (i, v) :: argsE (i + 1) r := rfl

theorem argsE_conc (S : Si) : ∀ (i : Nat) (l : List V), Env.ofArgs i (concs S l) = (argsE i l).conc S
  | _, [] => rfl
  | i, v :: r => by rw [concs, Env.ofArgs, argsE_cons, En.conc, argsE_conc S (i + 1) r]
theorem argsE_ok {n : Dm} : ∀ (i : Nat) (l : List V), oks n l → (argsE i l).ok n
  | _, [], _ => True.intro
  | i, _ :: r, h => ⟨h.1, argsE_ok (i + 1) r h.2⟩

abbrev RunF := Func → List Item → En → Mem → Option (V × Mem)

noncomputable def callV (P : Program) (pr : CallF) (rec : RunF) : CallF := fun f args M => match funT P f with
  | none => none
  | some fn => match pr f args M with
    | some r => some r
    | none => match fn.body with
      | none => none
      | some c => bif Nat.ble (lenR args) fn.ntmps then rec fn [.code c] (argsE 0 args) M else none

noncomputable def endV (P : Program) (fn : Func) (e : En) (M : Mem) : Option (V × Mem) := match resV P e M fn.results.toList with
  | some v => some (v, M)
  | none => none

noncomputable def thenR (rec : RunF) (fn : Func) (k : List Item) : Option (En × Mem) → Option (V × Mem)
  | some (e, M) => rec fn k e M
  | none => none

noncomputable def codeV (P : Program) (call : CallF) (rec : RunF) (fn : Func) (k : List Item) (e : En) (M : Mem) : Code → Option (V × Mem)
  | .skip => rec fn k e M
  | .seq a b => rec fn (.code a :: .code b :: k) e M
  | .region _ ops d => bif d then thenR rec fn k (drawV P call fn.ntmps ops e M) else thenR rec fn k (seqV P call fn.ntmps ops ops.toList e M)
  | .cond c a b => (match e.val c with
    | some (.bool t) => rec fn (.code (bif t then a else b) :: k) e M
    | _ => none)
  | .block id c => rec fn (.code c :: .inBlock id :: k) e M
  | .loop c => rec fn (.code c :: .inLoop c :: k) e M
  | .exit id => (match exitTo id k with
    | some k' => rec fn k' e M
    | none => none)
  | .ret => endV P fn e M
  | _ => none

noncomputable def itemV (P : Program) (call : CallF) (rec : RunF) (fn : Func) (e : En) (M : Mem) : List Item → Option (V × Mem)
  | [] => endV P fn e M
  | .code c :: k => codeV P call rec fn k e M c
  | .inBlock _ :: k => rec fn k e M
  | .inLoop c :: k => rec fn (.code c :: .inLoop c :: k) (cleanE 0 e) M
  | _ => none

/-- The reckoner. -/
noncomputable def exec (P : Program) (pr : CallF) (n : Nat) : RunF :=
  Nat.rec (fun _ _ _ _ => none) (fun _ rec fn k e M => itemV P (callV P pr rec) rec fn e M k) n

/-! ## It says what is so -/

noncomputable def resOf (tmps : Array Value) : ResultVar → Sem Value
  | .tmp t => pure (tmps.getD t undef)
  | .cell c t => do loadVar t (← asAddr (tmps.getD c undef))

theorem resL_spec [Obs] [Strm] {P : Program} {e : En} {M : Mem} {S : Si} {H : Dm} {F : List (Nat × Obj)} {w : World} (hk : e.ok (dom H M.nx)) (hR : Rel S H M F w) {ds : List Deferred} {n : Nat} {a : Act} (ha : Fits ds n (e.conc S) a) :
    ∀ {l : List ResultVar} {vs : List V}, resL P e M l = some vs → oks (dom H M.nx) vs ∧ (l.mapM (resOf a.tmps)).run P w = .ok (concs S vs) w
  | [], vs, h => by cases h; exact ⟨True.intro, by simp [concs]⟩
  | .tmp t :: r, vs, h => by
    unfold resL at h
    split at h
    · rename_i v us hv hu
      cases h
      obtain ⟨h1, h2⟩ := resL_spec hk hR ha hu
      obtain ⟨h3, h4⟩ := En.get_conc (S := S) hv hk
      have h5 := ha.vals t _ h3
      refine ⟨⟨h4, h1⟩, ?_⟩
      simp only [List.mapM_cons, resOf, Sem.run_bind, Sem.run_pure, Result.andThen, h2, concs]
      simp [h5]
    · cases h
  | .cell c t :: r, vs, h => by
    unfold resL at h
    split at h
    · rename_i u us hv hu
      split at h
      · rename_i v hl
        cases h
        obtain ⟨h1, h2⟩ := resL_spec hk hR ha hu
        obtain ⟨h3, _⟩ := En.get_conc (S := S) hv hk
        obtain ⟨ad, l1, l2, l3⟩ := loadV_spec hR hl
        have h5 := ha.vals c _ h3
        have h6 : a.tmps.getD c undef = .pointer (some ad) := by
          rw [← l1]; simp [h5]
        refine ⟨⟨l3, h1⟩, ?_⟩
        simp only [List.mapM_cons, resOf, Sem.run_bind, Result.andThen, h6, asAddr, Sem.run_pure, l2, h2, concs]
      · cases h
    · cases h

theorem resV_spec [Obs] [Strm] {P : Program} {fn : Func} {e : En} {M : Mem} {S : Si} {H : Dm} {F : List (Nat × Obj)} {w : World} {v : V} (hk : e.ok (dom H M.nx)) (hR : Rel S H M F w) (h : resV P e M fn.results.toList = some v) {ds : List Deferred} {n : Nat} {a : Act}
    (ha : Fits ds n (e.conc S) a) : (results fn a.tmps).run P w = .ok (v.conc S) w ∧ v.ok (dom H M.nx) := by
  have key : ∀ vs, resL P e M fn.results.toList = some vs → (results fn a.tmps).run P w = .ok (if h : (concs S vs).toArray.size = 1 then (concs S vs).toArray[0] else .tuple (concs S vs).toArray) w := fun vs hvs => by
    obtain ⟨h1, h2⟩ := resL_spec hk hR ha hvs
    have e1 : results fn a.tmps = (do
        let vs ← fn.results.mapM (resOf a.tmps)
        pure (if h : vs.size = 1 then vs[0] else .tuple vs)) := by
      unfold results
      congr 2
    have e2 : fn.results = fn.results.toList.toArray := by simp
    rw [e1, e2, List.mapM_toArray]
    simp only [Sem.run_bind, map_eq_pure_bind, Sem.run_pure, Result.andThen, h2]
  unfold resV at h
  split at h
  · rename_i u hu
    cases h
    rw [key _ hu]
    obtain ⟨h1, _⟩ := resL_spec hk hR ha hu
    exact ⟨by simp [concs], h1.1⟩
  · rename_i vs hne hu
    cases h
    rw [key _ hu]
    obtain ⟨h1, _⟩ := resL_spec hk hR ha hu
    refine ⟨?_, h1⟩
    have : ¬ (concs S vs).toArray.size = 1 := by
      intro h
      cases vs with
      | nil => simp [concs] at h
      | cons u r =>
        cases r with
        | nil => exact hne u rfl
        | cons u' r => simp [concs, concs_len] at h
    rw [dif_neg this]; rfl
  · cases h

/-- What is told of calls by contracts is so. -/
def PrimOk [Obs] [Strm] (P : Program) (pr : CallF) : Prop := ∀ (f : FuncId) (args : List V) (M : Mem) (v : V) (M' : Mem), pr f args M = some (v, M') →
  ∀ S H F w, Obs.glob F → oks (dom H M.nx) args → Rel S H M F w → Does P f (concs S args).toArray w (Post S H M.nx F (some v) M')

/-- From here on the function runs, and comes back with v, and memory as M'. -/
def Good [Obs] [Strm] (P : Program) (fn : Func) (k : List Item) (e : En) (M : Mem) (v : V) (M' : Mem) : Prop :=
  ∀ f, P.funcs[f]? = some fn → ∀ S0 n0 S H F w, Obs.glob F → Agree (dom H n0) S0 S → n0 ≤ M.nx → e.ok (dom H M.nx) → Rel S H M F w →
    RunsE P ⟨f, none, []⟩ (fun en w' => ∃ u, en = .returned u ∧ Post S0 H n0 F (some v) M' u w') fn.ntmps k (e.conc S) w

def RunOk [Obs] [Strm] (P : Program) (rec : RunF) : Prop := ∀ fn k e M v M', rec fn k e M = some (v, M') → Good P fn k e M v M'

theorem callV_ok [Obs] [Strm] {P : Program} {pr : CallF} {rec : RunF} (hn : NoNum P) (hp : PrimOk P pr) (hr : RunOk P rec) : CallsOk P (callV P pr rec) := fun f args M v M' h => by
  unfold callV at h
  simp only [lenR_eq] at h
  split at h
  · cases h
  · rename_i fn hf
    obtain ⟨h1, h2⟩ := funT_spec hn hf
    refine ⟨h2, fun S H F w hGl hk hR => ?_⟩
    split at h
    · cases h
      exact hp _ _ _ _ _ ‹_› S H F w hGl hk hR
    · split at h
      · cases h
      · rename_i c hb
        replace h := bif_some h; obtain ⟨hl, h⟩ := h
        exact Does.intro h1 hb rfl (by rw [concs_len]; exact hl) (argsE_conc S 0 args) (hr _ _ _ _ _ _ h f h1 S M.nx S H F w hGl (.refl _ _) (Nat.le_refl _) (argsE_ok 0 args hk) hR)

theorem endV_ok [Obs] [Strm] {P : Program} {fn : Func} {e : En} {M M' : Mem} {v : V} (h : endV P fn e M = some (v, M')) {k : List Item} : Good P fn (.code .ret :: k) e M v M' ∧ Good P fn [] e M v M' := by
  unfold endV at h
  split at h
  · rename_i u hu
    cases h
    have post : ∀ {S0 n0 S H F w}, Agree (dom H n0) S0 S → n0 ≤ M.nx → e.ok (dom H M.nx) → Rel S H M F w → ∀ {ds n a}, Fits ds n (e.conc S) a → (results fn a.tmps).run P w = .ok (v.conc S) w ∧ Post S0 H n0 F (some v) M (v.conc S) w := fun {S0 n0 S H F w} ha hn hk hR {ds n a} hfi => by
      obtain ⟨h1, h2⟩ := resV_spec hk hR hu hfi
      exact ⟨h1, S, ha, hn, fun v' hv' => by cases hv'; exact ⟨rfl, h2⟩, hR⟩
    refine ⟨fun f hf S0 n0 S H F w hGl ha hn hk hR => .of fun a hfi => ?_, fun f hf S0 n0 S H F w hGl ha hn hk hR => .of fun a hfi => ?_⟩
    · obtain ⟨h1, h2⟩ := post ha hn hk hR hfi
      exact .ret hf hfi.defers h1 ⟨_, rfl, h2⟩
    · obtain ⟨h1, h2⟩ := post ha hn hk hR hfi
      exact .end hf hfi.defers h1 ⟨_, rfl, h2⟩
  · cases h

theorem thenR_ok [Obs] [Strm] {P : Program} {rec : RunF} (hr : RunOk P rec) {fn : Func} {k : List Item} {o : Option (En × Mem)} {v : V} {M' : Mem} (h : thenR rec fn k o = some (v, M')) : ∃ e M, o = some (e, M) ∧ Good P fn k e M v M' := by
  cases o with
  | none => cases h
  | some x => exact ⟨x.1, x.2, rfl, hr _ _ _ _ _ _ h⟩

theorem RunsE.loop1 {P : Program} {C : Ctx} {R : Ending → World → Prop} {n : Nat} {k : List Item} {e : Env} {w : World} {c : Code} (h : RunsE P C R n (.code c :: .inLoop c :: k) e w) : RunsE P C R n (.code (.loop c) :: k) e w :=
  .of fun a ha => .step (fun _ _ => stepR_loop) (h.run a ha)
theorem RunsE.again {P : Program} {C : Ctx} {R : Ending → World → Prop} {n : Nat} {k : List Item} {e : Env} {w : World} {c : Code} (h : RunsE P C R n (.code c :: .inLoop c :: k) e w) : RunsE P C R n (.inLoop c :: k) e w :=
  .of fun a ha => .step (fun _ _ => stepR_inLoop) (h.run a ha)

theorem RunsE.clean {P : Program} {C : Ctx} {R : Ending → World → Prop} {n : Nat} {k : List Item} {e : En} {w : World} {S : Si} {D : Dm} {m : Nat} (hk : e.ok D) (h : RunsE P C R n k ((cleanE m e).conc S) w) : RunsE P C R n k (e.conc S) w :=
  .of fun a ha => h.run a ⟨ha.defers, ha.size, fun t u hu => by
    obtain ⟨v, hv, rfl⟩ := Env.of_conc hu
    exact ha.vals t _ (En.get_conc (S := S) (cleanE_get hv).2 hk).1⟩

theorem itemV_ok [Obs] [Strm] {P : Program} {call : CallF} {rec : RunF} (hm : P.follows .mixedOrders = true) (hc : CallsOk P call) (hr : RunOk P rec) {fn : Func} {e : En} {M M' : Mem} {k : List Item} {v : V} (h : itemV P call rec fn e M k = some (v, M')) : Good P fn k e M v M' := by
  unfold itemV at h
  split at h
  · exact (endV_ok h (k := [])).2
  · rename_i c k
    unfold codeV at h
    split at h
    · have g := hr _ _ _ _ _ _ h
      exact fun f hf S0 n0 S H F w hGl ha hn hk hR => .skip (g f hf S0 n0 S H F w hGl ha hn hk hR)
    · have g := hr _ _ _ _ _ _ h
      exact fun f hf S0 n0 S H F w hGl ha hn hk hR => .seq (g f hf S0 n0 S H F w hGl ha hn hk hR)
    · rename_i id ops d
      intro f hf S0 n0 S H F w hGl ha hn hk hR
      cases d with
      | true =>
        obtain ⟨e1, M1, h1, g⟩ := thenR_ok hr h
        exact drawV_spec hc hm rfl h1 hGl hk hR fun S' w' g1 g2 g3 g4 => g f hf S0 n0 S' H F w' hGl (ha.trans g1 (dom_le hn)) (Nat.le_trans hn g2) g3 g4
      | false =>
        obtain ⟨e1, M1, h1, g⟩ := thenR_ok hr h
        have h2 := seqV_spec hc hGl (C := ⟨f, none, []⟩) (R := fun en w' => ∃ u, en = .returned u ∧ Post S0 H n0 F (some v) M' u w') (k := k) (H := H) (F := F) h1 hk hR fun S' w' g1 g2 g3 g4 => g f hf S0 n0 S' H F w' hGl (ha.trans g1 (dom_le hn)) (Nat.le_trans hn g2) g3 g4
        have e2 : ops = ops.toList.toArray := by simp
        rw [e2]
        refine .region ?_
        rw [← e2]
        exact h2
    · split at h
      · rename_i t ht
        have g := hr _ _ _ _ _ _ h
        intro f hf S0 n0 S H F w hGl ha hn hk hR
        obtain ⟨ht', _⟩ := En.val_conc (S := S) ht hk
        have g := g f hf S0 n0 S H F w hGl ha hn hk hR
        cases t with
        | true => exact .yes ht' g
        | false => exact .no ht' g
      · cases h
    · have g := hr _ _ _ _ _ _ h
      exact fun f hf S0 n0 S H F w hGl ha hn hk hR => .block (g f hf S0 n0 S H F w hGl ha hn hk hR)
    · have g := hr _ _ _ _ _ _ h
      exact fun f hf S0 n0 S H F w hGl ha hn hk hR => RunsE.loop1 (g f hf S0 n0 S H F w hGl ha hn hk hR)
    · split at h
      · rename_i hx
        have g := hr _ _ _ _ _ _ h
        exact fun f hf S0 n0 S H F w hGl ha hn hk hR => .exit hx (g f hf S0 n0 S H F w hGl ha hn hk hR)
      · cases h
    · exact (endV_ok h).1
    · cases h
  · have g := hr _ _ _ _ _ _ h
    exact fun f hf S0 n0 S H F w hGl ha hn hk hR => .inBlock (g f hf S0 n0 S H F w hGl ha hn hk hR)
  · have g := hr _ _ _ _ _ _ h
    exact fun f hf S0 n0 S H F w hGl ha hn hk hR => RunsE.again (RunsE.clean hk (g f hf S0 n0 S H F w hGl ha hn (cleanE_ok hk) hR))
  · cases h

/-- The reckoner says what is so. -/
theorem exec_ok [Obs] [Strm] {P : Program} {pr : CallF} (hm : P.follows .mixedOrders = true) (hn : NoNum P) (hp : PrimOk P pr) : ∀ n, RunOk P (exec P pr n)
  | 0 => fun fn k e M v M' h => by cases h
  | n + 1 => fun fn k e M v M' h => itemV_ok hm (callV_ok hn hp (exec_ok hm hn hp n)) (exec_ok hm hn hp n) h

/-- A call, reckoned. -/
theorem run_ok [Obs] [Strm] {P : Program} {pr : CallF} (hm : P.follows .mixedOrders = true) (hn : NoNum P) (hp : PrimOk P pr) {n : Nat} : CallsOk P (callV P pr (exec P pr n)) := callV_ok hn hp (exec_ok hm hn hp n)

end Go.K
end

section
/-
  The library's contracts at this dump: the kit's, laid by its own tools (lay-shelf.mjs, lay-plain.mjs), in plain words.
-/
namespace Go.Proofs.YtdppnaahdilkcaaGreatDoor
open Go.Shelf
def srt_lays171_ren : Go.Shelf.Ren := ⟨fun | 171 => 303 | 243 => 343 | 246 => 370 | 283 => 397 | 284 => 398 | 285 => 399 | 286 => 400 | 129 => 99 | 317 => 410 | 318 => 411 | 319 => 412 | 320 => 413 | 337 => 416 | 338 => 417 | n => n, fun | 3 => 3 | 9 => 9 | 2 => 2 | 4 => 4 | 171 => 508 | 0 => 0 | 53 => 150 | 37 => 66 | 5 => 5 | 173 => 510 | 212 => 520 | 51 => 167 | 20 => 20 | 213 => 521 | 46 => 48 | 232 => 24 | 233 => 371 | n => n, fun | 17 => 1 | 18 => 3 | 19 => 4 | n => n⟩
theorem srt_lays171 : Go.Proofs.Lays.n171 Tryz.prog srt_lays171_ren := {
  mixed := by kernel_rfl
  f129 := Tryz.func99.trans (congrArg some (by kernel_rfl))
  f171 := Tryz.func303.trans (congrArg some (by kernel_rfl))
  f243 := Tryz.func343.trans (congrArg some (by kernel_rfl))
  f246 := Tryz.func370.trans (congrArg some (by kernel_rfl))
  f283 := Tryz.func397.trans (congrArg some (by kernel_rfl))
  f284 := Tryz.func398.trans (congrArg some (by kernel_rfl))
  f285 := Tryz.func399.trans (congrArg some (by kernel_rfl))
  f286 := Tryz.func400.trans (congrArg some (by kernel_rfl))
  f317 := Tryz.func410.trans (congrArg some (by kernel_rfl))
  f318 := Tryz.func411.trans (congrArg some (by kernel_rfl))
  f319 := Tryz.func412.trans (congrArg some (by kernel_rfl))
  f320 := Tryz.func413.trans (congrArg some (by kernel_rfl))
  f337 := Tryz.func416.trans (congrArg some (by kernel_rfl))
  f338 := Tryz.func417.trans (congrArg some (by kernel_rfl))
  t0 := Tryz.underlying0
  a0 := Tryz.isAgg0
  z0 := Tryz.sizeOf0
  v0 := Tryz.zeroValue0
  t2 := Tryz.underlying2
  a2 := Tryz.isAgg2
  z2 := Tryz.sizeOf2
  v2 := Tryz.zeroValue2
  t3 := Tryz.underlying3
  a3 := Tryz.isAgg3
  z3 := Tryz.sizeOf3
  v3 := Tryz.zeroValue3
  t4 := Tryz.underlying4
  a4 := Tryz.isAgg4
  z4 := Tryz.sizeOf4
  v4 := Tryz.zeroValue4
  t5 := Tryz.underlying5
  a5 := Tryz.isAgg5
  z5 := Tryz.sizeOf5
  v5 := Tryz.zeroValue5
  t9 := Tryz.underlying9
  a9 := Tryz.isAgg9
  z9 := Tryz.sizeOf9
  v9 := Tryz.zeroValue9
  t20 := Tryz.underlying20
  a20 := Tryz.isAgg20
  z20 := Tryz.sizeOf20
  v20 := Tryz.zeroValue20
  t37 := Tryz.underlying66
  a37 := Tryz.isAgg66
  z37 := Tryz.sizeOf66
  v37 := Tryz.zeroValue66
  t46 := Tryz.underlying48
  a46 := Tryz.isAgg48
  z46 := Tryz.sizeOf48
  v46 := Tryz.zeroValue48
  t51 := Tryz.underlying167
  a51 := Tryz.isAgg167
  z51 := Tryz.sizeOf167
  v51 := Tryz.zeroValue167
  t53 := Tryz.underlying150
  a53 := Tryz.isAgg150
  z53 := Tryz.sizeOf150
  v53 := Tryz.zeroValue150
  t171 := Tryz.underlying508
  a171 := Tryz.isAgg508
  z171 := Tryz.sizeOf508
  v171 := Tryz.zeroValue508
  t173 := Tryz.underlying510
  a173 := Tryz.isAgg510
  z173 := Tryz.sizeOf510
  v173 := Tryz.zeroValue510
  t212 := Tryz.underlying520
  a212 := Tryz.isAgg520
  z212 := Tryz.sizeOf520
  v212 := Tryz.zeroValue520
  t213 := Tryz.underlying521
  a213 := Tryz.isAgg521
  z213 := Tryz.sizeOf521
  t232 := Tryz.underlying24
  a232 := Tryz.isAgg24
  z232 := Tryz.sizeOf24
  v232 := Tryz.zeroValue24
  t233 := Tryz.underlying371
  a233 := Tryz.isAgg371
  z233 := Tryz.sizeOf371
  v233 := Tryz.zeroValue371
  g17 := by kernel_rfl
  g18 := by kernel_rfl
  g19 := by kernel_rfl }
open Go.RowKit Go.Sort Go.Lib in
theorem srt_strconv_Itoa_small (i : Nat) (hi : i < 100) (w : World) :
    Calls Tryz.prog 303 #[.int .i64 i] w fun e w' => e = .returned (.string ⟨(Lib.decDigits i).toArray⟩) ∧ w' = w := Any.strconv_Itoa_small srt_lays171 i hi w
def srt_lays189_ren : Go.Shelf.Ren := ⟨fun | 189 => 34 | 125 => 57 | 257 => 56 | 128 => 98 | 129 => 99 | 294 => 89 | 295 => 90 | 296 => 91 | 297 => 92 | 298 => 93 | 299 => 94 | 216 => 95 | 300 => 96 | 301 => 97 | 328 => 136 | 329 => 137 | 330 => 138 | 331 => 139 | 332 => 140 | 215 => 87 | 343 => 185 | n => n, fun | 28 => 22 | 3 => 3 | 46 => 48 | 0 => 0 | 51 => 167 | 53 => 150 | 4 => 4 | 183 => 161 | 182 => 160 | 131 => 77 | 5 => 5 | 9 => 9 | 218 => 235 | 222 => 239 | 228 => 291 | 229 => 50 | n => n, fun | n => n⟩
theorem srt_lays189 : Go.Proofs.Lays.n189 Tryz.prog srt_lays189_ren := {
  mixed := by kernel_rfl
  f125 := Tryz.func57.trans (congrArg some (by kernel_rfl))
  f128 := Tryz.func98.trans (congrArg some (by kernel_rfl))
  f129 := Tryz.func99.trans (congrArg some (by kernel_rfl))
  f189 := Tryz.func34.trans (congrArg some (by kernel_rfl))
  f215 := Tryz.func87.trans (congrArg some (by kernel_rfl))
  f216 := Tryz.func95.trans (congrArg some (by kernel_rfl))
  f257 := Tryz.func56.trans (congrArg some (by kernel_rfl))
  f294 := Tryz.func89.trans (congrArg some (by kernel_rfl))
  f295 := Tryz.func90.trans (congrArg some (by kernel_rfl))
  f296 := Tryz.func91.trans (congrArg some (by kernel_rfl))
  f297 := Tryz.func92.trans (congrArg some (by kernel_rfl))
  f298 := Tryz.func93.trans (congrArg some (by kernel_rfl))
  f299 := Tryz.func94.trans (congrArg some (by kernel_rfl))
  f300 := Tryz.func96.trans (congrArg some (by kernel_rfl))
  f301 := Tryz.func97.trans (congrArg some (by kernel_rfl))
  f328 := Tryz.func136.trans (congrArg some (by kernel_rfl))
  f329 := Tryz.func137.trans (congrArg some (by kernel_rfl))
  f330 := Tryz.func138.trans (congrArg some (by kernel_rfl))
  f331 := Tryz.func139.trans (congrArg some (by kernel_rfl))
  f332 := Tryz.func140.trans (congrArg some (by kernel_rfl))
  f343 := Tryz.func185.trans (congrArg some (by kernel_rfl))
  t0 := Tryz.underlying0
  a0 := Tryz.isAgg0
  z0 := Tryz.sizeOf0
  v0 := Tryz.zeroValue0
  t3 := Tryz.underlying3
  a3 := Tryz.isAgg3
  z3 := Tryz.sizeOf3
  v3 := Tryz.zeroValue3
  t4 := Tryz.underlying4
  a4 := Tryz.isAgg4
  z4 := Tryz.sizeOf4
  v4 := Tryz.zeroValue4
  t5 := Tryz.underlying5
  a5 := Tryz.isAgg5
  z5 := Tryz.sizeOf5
  v5 := Tryz.zeroValue5
  t9 := Tryz.underlying9
  a9 := Tryz.isAgg9
  z9 := Tryz.sizeOf9
  v9 := Tryz.zeroValue9
  t28 := Tryz.underlying22
  a28 := Tryz.isAgg22
  z28 := Tryz.sizeOf22
  v28 := Tryz.zeroValue22
  t46 := Tryz.underlying48
  a46 := Tryz.isAgg48
  z46 := Tryz.sizeOf48
  v46 := Tryz.zeroValue48
  t51 := Tryz.underlying167
  a51 := Tryz.isAgg167
  z51 := Tryz.sizeOf167
  v51 := Tryz.zeroValue167
  t53 := Tryz.underlying150
  a53 := Tryz.isAgg150
  z53 := Tryz.sizeOf150
  v53 := Tryz.zeroValue150
  t131 := Tryz.underlying77
  a131 := Tryz.isAgg77
  z131 := Tryz.sizeOf77
  v131 := Tryz.zeroValue77
  t182 := Tryz.underlying160
  a182 := Tryz.isAgg160
  z182 := Tryz.sizeOf160
  v182 := Tryz.zeroValue160
  t183 := Tryz.underlying161
  a183 := Tryz.isAgg161
  z183 := Tryz.sizeOf161
  v183 := Tryz.zeroValue161
  t218 := Tryz.underlying235
  a218 := Tryz.isAgg235
  z218 := Tryz.sizeOf235
  v218 := Tryz.zeroValue235
  t222 := Tryz.underlying239
  a222 := Tryz.isAgg239
  z222 := Tryz.sizeOf239
  v222 := Tryz.zeroValue239
  t228 := Tryz.underlying291
  a228 := Tryz.isAgg291
  z228 := Tryz.sizeOf291
  v228 := Tryz.zeroValue291
  t229 := Tryz.underlying50
  a229 := Tryz.isAgg50
  z229 := Tryz.sizeOf50
  v229 := Tryz.zeroValue50 }
open Go.Sort Go.RowKit in
theorem srt_int (blk off cap : Nat) (zs : List Int) (w : World) (hH : Holds (Value.int .i64) w blk off zs.toArray) (hblk : blk < w.heap.size) (hsz : zs.length < 4611686018427387904) :
    Calls Tryz.prog 34 #[.slice (some ⟨blk, off, none⟩) zs.length cap] w fun e w' =>
      e = .returned (.tuple #[]) ∧ ∃ n os, w' = grow (putRow (Value.int .i64) (Sort.ahead w n) blk off (zs.mergeSort fun x y => decide (x ≤ y)).toArray) os := Any.slices_Sort_int srt_lays189 blk off cap zs w hH hblk hsz
def srt_lays190_ren : Go.Shelf.Ren := ⟨fun | 190 => 289 | 125 => 57 | 258 => 336 | 128 => 98 | 129 => 99 | 302 => 360 | 303 => 361 | 304 => 362 | 305 => 363 | 306 => 364 | 307 => 365 | 308 => 366 | 309 => 367 | 310 => 368 | 333 => 393 | 329 => 137 | 330 => 138 | 334 => 394 | 335 => 395 | 336 => 396 | 344 => 409 | n => n, fun | 31 => 347 | 9 => 9 | 3 => 3 | 46 => 48 | 0 => 0 | 51 => 167 | 53 => 150 | 4 => 4 | 183 => 161 | 182 => 160 | 131 => 77 | 5 => 5 | 218 => 235 | 222 => 239 | 228 => 291 | 229 => 50 | n => n, fun | n => n⟩
theorem srt_lays190 : Go.Proofs.Lays.n190 Tryz.prog srt_lays190_ren := {
  mixed := by kernel_rfl
  f125 := Tryz.func57.trans (congrArg some (by kernel_rfl))
  f128 := Tryz.func98.trans (congrArg some (by kernel_rfl))
  f129 := Tryz.func99.trans (congrArg some (by kernel_rfl))
  f190 := Tryz.func289.trans (congrArg some (by kernel_rfl))
  f258 := Tryz.func336.trans (congrArg some (by kernel_rfl))
  f302 := Tryz.func360.trans (congrArg some (by kernel_rfl))
  f303 := Tryz.func361.trans (congrArg some (by kernel_rfl))
  f304 := Tryz.func362.trans (congrArg some (by kernel_rfl))
  f305 := Tryz.func363.trans (congrArg some (by kernel_rfl))
  f306 := Tryz.func364.trans (congrArg some (by kernel_rfl))
  f307 := Tryz.func365.trans (congrArg some (by kernel_rfl))
  f308 := Tryz.func366.trans (congrArg some (by kernel_rfl))
  f309 := Tryz.func367.trans (congrArg some (by kernel_rfl))
  f310 := Tryz.func368.trans (congrArg some (by kernel_rfl))
  f329 := Tryz.func137.trans (congrArg some (by kernel_rfl))
  f330 := Tryz.func138.trans (congrArg some (by kernel_rfl))
  f333 := Tryz.func393.trans (congrArg some (by kernel_rfl))
  f334 := Tryz.func394.trans (congrArg some (by kernel_rfl))
  f335 := Tryz.func395.trans (congrArg some (by kernel_rfl))
  f336 := Tryz.func396.trans (congrArg some (by kernel_rfl))
  f344 := Tryz.func409.trans (congrArg some (by kernel_rfl))
  t0 := Tryz.underlying0
  a0 := Tryz.isAgg0
  z0 := Tryz.sizeOf0
  v0 := Tryz.zeroValue0
  t3 := Tryz.underlying3
  a3 := Tryz.isAgg3
  z3 := Tryz.sizeOf3
  v3 := Tryz.zeroValue3
  t4 := Tryz.underlying4
  a4 := Tryz.isAgg4
  z4 := Tryz.sizeOf4
  v4 := Tryz.zeroValue4
  t5 := Tryz.underlying5
  a5 := Tryz.isAgg5
  z5 := Tryz.sizeOf5
  v5 := Tryz.zeroValue5
  t9 := Tryz.underlying9
  a9 := Tryz.isAgg9
  z9 := Tryz.sizeOf9
  v9 := Tryz.zeroValue9
  t31 := Tryz.underlying347
  a31 := Tryz.isAgg347
  z31 := Tryz.sizeOf347
  v31 := Tryz.zeroValue347
  t46 := Tryz.underlying48
  a46 := Tryz.isAgg48
  z46 := Tryz.sizeOf48
  v46 := Tryz.zeroValue48
  t51 := Tryz.underlying167
  a51 := Tryz.isAgg167
  z51 := Tryz.sizeOf167
  v51 := Tryz.zeroValue167
  t53 := Tryz.underlying150
  a53 := Tryz.isAgg150
  z53 := Tryz.sizeOf150
  v53 := Tryz.zeroValue150
  t131 := Tryz.underlying77
  a131 := Tryz.isAgg77
  z131 := Tryz.sizeOf77
  v131 := Tryz.zeroValue77
  t182 := Tryz.underlying160
  a182 := Tryz.isAgg160
  z182 := Tryz.sizeOf160
  v182 := Tryz.zeroValue160
  t183 := Tryz.underlying161
  a183 := Tryz.isAgg161
  z183 := Tryz.sizeOf161
  v183 := Tryz.zeroValue161
  t218 := Tryz.underlying235
  a218 := Tryz.isAgg235
  z218 := Tryz.sizeOf235
  v218 := Tryz.zeroValue235
  t222 := Tryz.underlying239
  a222 := Tryz.isAgg239
  z222 := Tryz.sizeOf239
  v222 := Tryz.zeroValue239
  t228 := Tryz.underlying291
  a228 := Tryz.isAgg291
  z228 := Tryz.sizeOf291
  v228 := Tryz.zeroValue291
  t229 := Tryz.underlying50
  a229 := Tryz.isAgg50
  z229 := Tryz.sizeOf50
  v229 := Tryz.zeroValue50 }
open Go.Sort Go.RowKit in
theorem srt_string (blk off cap : Nat) (ss : List (List UInt8)) (w : World) (hH : Holds encStr w blk off ss.toArray) (hblk : blk < w.heap.size) (hsz : ss.length < 4611686018427387904) :
    Calls Tryz.prog 289 #[.slice (some ⟨blk, off, none⟩) ss.length cap] w fun e w' =>
      e = .returned (.tuple #[]) ∧ ∃ n os, w' = grow (putRow encStr (Sort.ahead w n) blk off (ss.mergeSort fun x y => decide (x ≤ y)).toArray) os := Any.slices_Sort_string srt_lays190 blk off cap ss w hH hblk hsz
def srt_lays105_ren : Go.Shelf.Ren := ⟨fun | 105 => 304 | 212 => 344 | 99 => 345 | 165 => 346 | 166 => 347 | 170 => 348 | 169 => 349 | 263 => 371 | 264 => 372 | 206 => 373 | 240 => 374 | 241 => 375 | 276 => 401 | 277 => 402 | n => n, fun | 9 => 9 | 3 => 3 | 4 => 4 | 20 => 20 | 0 => 0 | 46 => 48 | 109 => 466 | 5 => 5 | 72 => 471 | 76 => 210 | 51 => 167 | 146 => 490 | 53 => 150 | 148 => 492 | 70 => 469 | 37 => 66 | 75 => 39 | 127 => 494 | 164 => 512 | 80 => 474 | n => n, fun | n => n⟩
theorem srt_lays105 : Go.Proofs.Lays.n105 Tryz.prog srt_lays105_ren := {
  mixed := by kernel_rfl
  f99 := Tryz.func345.trans (congrArg some (by kernel_rfl))
  f105 := Tryz.func304.trans (congrArg some (by kernel_rfl))
  f165 := Tryz.func346.trans (congrArg some (by kernel_rfl))
  f166 := Tryz.func347.trans (congrArg some (by kernel_rfl))
  f169 := Tryz.func349.trans (congrArg some (by kernel_rfl))
  f170 := Tryz.func348.trans (congrArg some (by kernel_rfl))
  f206 := Tryz.func373.trans (congrArg some (by kernel_rfl))
  f212 := Tryz.func344.trans (congrArg some (by kernel_rfl))
  f240 := Tryz.func374.trans (congrArg some (by kernel_rfl))
  f241 := Tryz.func375.trans (congrArg some (by kernel_rfl))
  f263 := Tryz.func371.trans (congrArg some (by kernel_rfl))
  f264 := Tryz.func372.trans (congrArg some (by kernel_rfl))
  f276 := Tryz.func401.trans (congrArg some (by kernel_rfl))
  f277 := Tryz.func402.trans (congrArg some (by kernel_rfl))
  t0 := Tryz.underlying0
  a0 := Tryz.isAgg0
  z0 := Tryz.sizeOf0
  v0 := Tryz.zeroValue0
  t3 := Tryz.underlying3
  a3 := Tryz.isAgg3
  z3 := Tryz.sizeOf3
  v3 := Tryz.zeroValue3
  t4 := Tryz.underlying4
  a4 := Tryz.isAgg4
  z4 := Tryz.sizeOf4
  v4 := Tryz.zeroValue4
  t5 := Tryz.underlying5
  a5 := Tryz.isAgg5
  z5 := Tryz.sizeOf5
  v5 := Tryz.zeroValue5
  t9 := Tryz.underlying9
  a9 := Tryz.isAgg9
  z9 := Tryz.sizeOf9
  v9 := Tryz.zeroValue9
  t20 := Tryz.underlying20
  a20 := Tryz.isAgg20
  z20 := Tryz.sizeOf20
  v20 := Tryz.zeroValue20
  t37 := Tryz.underlying66
  a37 := Tryz.isAgg66
  z37 := Tryz.sizeOf66
  v37 := Tryz.zeroValue66
  t46 := Tryz.underlying48
  a46 := Tryz.isAgg48
  z46 := Tryz.sizeOf48
  v46 := Tryz.zeroValue48
  t51 := Tryz.underlying167
  a51 := Tryz.isAgg167
  z51 := Tryz.sizeOf167
  v51 := Tryz.zeroValue167
  t53 := Tryz.underlying150
  a53 := Tryz.isAgg150
  z53 := Tryz.sizeOf150
  v53 := Tryz.zeroValue150
  t70 := Tryz.underlying469
  a70 := Tryz.isAgg469
  z70 := Tryz.sizeOf469
  v70 := Tryz.zeroValue469
  t72 := Tryz.underlying471
  a72 := Tryz.isAgg471
  z72 := Tryz.sizeOf471
  v72 := Tryz.zeroValue471
  t75 := Tryz.underlying39
  a75 := Tryz.isAgg39
  z75 := Tryz.sizeOf39
  v75 := Tryz.zeroValue39
  t76 := Tryz.underlying210
  a76 := Tryz.isAgg210
  z76 := Tryz.sizeOf210
  v76 := Tryz.zeroValue210
  t109 := Tryz.underlying466
  a109 := Tryz.isAgg466
  z109 := Tryz.sizeOf466
  v109 := Tryz.zeroValue466
  t127 := Tryz.underlying494
  a127 := Tryz.isAgg494
  z127 := Tryz.sizeOf494
  v127 := Tryz.zeroValue494
  t146 := Tryz.underlying490
  a146 := Tryz.isAgg490
  z146 := Tryz.sizeOf490
  v146 := Tryz.zeroValue490
  t148 := Tryz.underlying492
  a148 := Tryz.isAgg492
  z148 := Tryz.sizeOf492
  v148 := Tryz.zeroValue492
  t164 := Tryz.underlying512
  a164 := Tryz.isAgg512
  z164 := Tryz.sizeOf512
  v164 := Tryz.zeroValue512 }
theorem srt_Builder_Extra_105 : Builder.Extra Tryz.prog srt_lays105_ren := {
  sizeBuilder := by kernel_rfl
  liesBuilder := by kernel_rfl
  t5 := Tryz.underlying5
  a5 := Tryz.isAgg5
  z5 := Tryz.sizeOf5
  v5 := Tryz.zeroValue5
  infoByte := by kernel_rfl
  cellsByte := by kernel_rfl
  sizeByte := by kernel_rfl
  neB5 := by decide }
open Go.RowKit Go.Lib in
theorem srt_strings_Repeat (s : ByteArray) (c : Nat) (w : World) (hc : c ≤ 9223372036854775807) (hlen : s.size * c ≤ 140737488355328) :
    Calls Tryz.prog 304 #[.string s, .int .i64 c] w fun e w' => e = .returned (.string ⟨(Lib.repeatL s.data.toList c).toArray⟩) ∧ Below w.heap.size w w' := Any.strings_Repeat srt_lays105 srt_Builder_Extra_105 s c w hc hlen
def srt_laysNm220_ren : Go.Shelf.Ren := ⟨fun | 20 => 105 | n => n, fun | 22 => 22 | 3 => 3 | 4 => 4 | 0 => 0 | n => n, fun | n => n⟩
theorem srt_laysNm220 : Go.Proofs.Lays2.n20 Tryz.prog srt_laysNm220_ren := {
  mixed := by kernel_rfl
  f20 := Tryz.func105.trans (congrArg some (by kernel_rfl))
  t0 := Tryz.underlying0
  a0 := Tryz.isAgg0
  z0 := Tryz.sizeOf0
  v0 := Tryz.zeroValue0
  t3 := Tryz.underlying3
  a3 := Tryz.isAgg3
  z3 := Tryz.sizeOf3
  v3 := Tryz.zeroValue3
  t4 := Tryz.underlying4
  a4 := Tryz.isAgg4
  z4 := Tryz.sizeOf4
  v4 := Tryz.zeroValue4
  t22 := Tryz.underlying22
  a22 := Tryz.isAgg22
  z22 := Tryz.sizeOf22
  v22 := Tryz.zeroValue22
  i3 := by kernel_rfl }
open Go.RowKit Go.Lib Go.Sort in
theorem srt_slices_Compact_int_cells (b off n c : Nat) (zs : List Int) (w : World) (hz : n ≤ zs.length) (hbig : n ≤ 9223372036854775807) (hcap : n ≤ c) (hc : ∀ j, j < zs.length → w.cell? ⟨b, off + j, none⟩ = some (.int .i64 (zs.getD j 0))) (hf : ∀ j, j < n → w.frozen? ⟨b, off + j, none⟩ = false) :
    Calls Tryz.prog 105 #[.slice (some ⟨b, off, none⟩) n c] w fun e w' => e = .returned (.slice (some ⟨b, off, none⟩) (Lib.compact (zs.take n)).length c) ∧ ∃ q, w' = (w.drewN q).setCells b off ((Lib.compact (zs.take n) ++ List.replicate (n - (Lib.compact (zs.take n)).length) 0).map (Value.int .i64)) := Any.slices_Compact_int_cells srt_laysNm220 b off n c zs w hz hbig hcap hc hf
open Go.RowKit Go.Sort in
theorem srt_string_none (p : Option Addr) (cap : Nat) (w : World) :
    Calls Tryz.prog 289 #[.slice p 0 cap] w fun e w' => e = .returned (.tuple #[]) ∧ w' = w := Any.slices_Sort_string_none srt_lays190 p cap w
open Go.RowKit Go.Sort in
theorem srt_int_none (p : Option Addr) (cap : Nat) (w : World) :
    Calls Tryz.prog 34 #[.slice p 0 cap] w fun e w' => e = .returned (.tuple #[]) ∧ w' = w := Any.slices_Sort_int_none srt_lays189 p cap w
end Go.Proofs.YtdppnaahdilkcaaGreatDoor
end

section
/-
  The engine: a range over a map that is keyed by strings; its copy.
-/
namespace Go.Proofs.YtdppnaahdilkcaaGreatDoor.V
open Go.ChangeShapes Go.WideShapes

/-- An iterator over the map m. -/
def iterO (m since : Nat) (seen : List Nat) (last : Nat) : Obj := .mapIter (some m) since seen.toArray last

/-- A range on its way: of the map om (at the block m) 'kept' has been gone over and is still there, 'rest' is to come. -/
def ItM (om oi : Obj) (m : Nat) (kept rest : List KV) : Prop := ∃ es clock seen, om = mapSO es clock ∧ oi = iterO m clock seen clock ∧ WfE es clock ∧
  ((es.filter fun x => decide (x.2.2 ∈ seen)).map kvOf).Perm kept ∧ ((es.filter fun x => decide (x.2.2 ∉ seen)).map kvOf).Perm rest

/-- The same, at the entry x, which is the last of 'kept'. -/
def ItC (om oi : Obj) (m : Nat) (kept rest : List KV) (x : KV) : Prop := ∃ es clock seen born, om = mapSO es clock ∧ oi = iterO m clock (seen ++ [born]) clock ∧ WfE es clock ∧ (x.1, x.2, born) ∈ es ∧ born ∉ seen ∧
  ((es.filter fun y => decide (y.2.2 ∈ seen)).map kvOf).Perm kept ∧ ((es.filter fun y => decide (y.2.2 ∉ seen ++ [born])).map kvOf).Perm rest

theorem filter_split {α : Type} (p : α → Prop) [DecidablePred p] (l : List α) : ((l.filter fun x => decide (p x)) ++ (l.filter fun x => decide (¬ p x))).Perm l := by
  induction l with
  | nil => exact .refl _
  | cons a r ih =>
    by_cases h : p a
    · simp only [List.filter_cons, h, decide_true, if_true, not_true, decide_false, Bool.false_eq_true, if_false, List.cons_append]
      exact ih.cons a
    · simp only [List.filter_cons, h, decide_true, if_true, not_false_eq_true, decide_false, Bool.false_eq_true, if_false]
      exact List.perm_middle.trans (ih.cons a)

theorem ItM.all {om oi : Obj} {m : Nat} {kept rest : List KV} (h : ItM om oi m kept rest) : Mp om (kept ++ rest) := by
  obtain ⟨es, clock, seen, h1, _, h3, h4, h5⟩ := h
  refine ⟨es, clock, h1, h3, ?_⟩
  refine List.Perm.trans ?_ (h4.append h5)
  rw [← List.map_append]
  exact ((filter_split (fun x : Ent => x.2.2 ∈ seen) es).map kvOf).symm

theorem ItM.start {es : List Ent} {clock m : Nat} {l : List KV} (hw : WfE es clock) (hp : (es.map kvOf).Perm l) : ItM (mapSO es clock) (iterO m clock [] clock) m [] l := by
  refine ⟨es, clock, [], rfl, rfl, hw, ?_, ?_⟩
  · simp
  · have : (es.filter fun x => decide (x.2.2 ∉ ([] : List Nat))) = es := by
      rw [List.filter_eq_self]
      intro x _
      simp
    rw [this]
    exact hp

theorem born_one {es : List Ent} (hn : (es.map (·.2.2)).Nodup) {x y : Ent} (hx : x ∈ es) (hy : y ∈ es) (h : x.2.2 = y.2.2) : x = y := by
  induction es with
  | nil => cases hx
  | cons a r ih =>
    rw [List.map_cons, List.nodup_cons] at hn
    rcases List.mem_cons.1 hx with h1 | h1 <;> rcases List.mem_cons.1 hy with h2 | h2
    · rw [h1, h2]
    · exact absurd (by rw [← h1, h]; exact List.mem_map_of_mem (f := fun a : Ent => a.2.2) h2) hn.1
    · exact absurd (by rw [← h2, ← h]; exact List.mem_map_of_mem (f := fun a : Ent => a.2.2) h1) hn.1
    · exact ih hn.2 h1 h2

theorem filter_one_perm {es : List Ent} (hn : (es.map (·.2.2)).Nodup) {x : Ent} (hx : x ∈ es) (p : Ent → Bool) (hp : p x = true) : (es.filter p).Perm (x :: es.filter fun y => p y && decide (y.2.2 ≠ x.2.2)) := by
  induction es with
  | nil => cases hx
  | cons a r ih =>
    have hn0 := hn
    rw [List.map_cons, List.nodup_cons] at hn
    rcases List.mem_cons.1 hx with rfl | hx
    · rw [List.filter_cons, if_pos hp, List.filter_cons]
      simp only [ne_eq, not_true, decide_false, Bool.and_false, Bool.false_eq_true, if_false]
      refine List.Perm.cons _ ?_
      have : (r.filter fun y => p y && decide (¬ y.2.2 = x.2.2)) = r.filter p := by
        apply List.filter_congr
        intro y hy
        have : ¬ y.2.2 = x.2.2 := fun h => hn.1 (by rw [← h]; exact List.mem_map_of_mem (f := fun a : Ent => a.2.2) hy)
        simp [this]
      rw [this]
    · have hax : ¬ a.2.2 = x.2.2 := fun h => hn.1 (by rw [h]; exact List.mem_map_of_mem (f := fun a : Ent => a.2.2) hx)
      rw [List.filter_cons, List.filter_cons]
      have e1 : (p a && decide (a.2.2 ≠ x.2.2)) = p a := by simp [hax]
      rw [e1]
      split
      · exact ((ih hn.2 hx).cons a).trans (.swap x a _)
      · exact ih hn.2 hx

theorem ItC.toM {om oi : Obj} {m : Nat} {kept rest : List KV} {x : KV} (h : ItC om oi m kept rest x) : ItM om oi m (kept ++ [x]) rest := by
  obtain ⟨es, clock, seen, born, h1, h2, h3, h4, h5, h6, h7⟩ := h
  refine ⟨es, clock, seen ++ [born], h1, h2, h3, ?_, h7⟩
  have e1 := (filter_one_perm h3.born h4 (fun y => decide (y.2.2 ∈ seen ++ [born])) (by simp)).map kvOf
  refine e1.trans ?_
  rw [List.map_cons]
  have e2 : (es.filter fun y => decide (y.2.2 ∈ seen ++ [born]) && decide (y.2.2 ≠ born)) = es.filter fun y => decide (y.2.2 ∈ seen) := by
    apply List.filter_congr
    intro y _
    rw [Bool.eq_iff_iff]
    simp only [List.mem_append, List.mem_singleton, ne_eq, Bool.and_eq_true, decide_eq_true_iff]
    constructor
    · rintro ⟨h | h, h2⟩
      · exact h
      · exact absurd h h2
    · intro h
      exact ⟨.inl h, fun h2 => h5 (by rw [← h2]; exact h)⟩
  rw [e2]
  exact (h6.cons x).trans (List.perm_append_comm (l₁ := [x]) (l₂ := kept))

section
variable {P : Program} {w : World} {e : Env} {ty t t2 k v n : TypeId} {x y z : Operand} {L L' : List (Nat × Obj)}

theorem run_equalIn_mapNil {k v : TypeId} {m : Option Nat} (hu : P.underlying t = some (.map k v)) (d : Nat) : (Op.equalIn (d + 1) t (.map m) (.map none)).run P w = .ok m.isNone w := by
  have h1 := run_underlying (w := w) hu
  cases m <;> simp [Op.equalIn, h1]

theorem Ev.mapNilEq {t' k v : TypeId} {m : Option Nat} (hx : e.val x = some (.map m)) (hy : e.val y = some (.map none)) (hu : P.underlying t = some (.map k v)) : Ev P w e (.binOp .eql t x y t') ty (.bool m.isNone) := .of fun ρ hρ _ _ _ _ => by
  have h := run_equal_of (w := w) fun d => run_equalIn_mapNil (m := m) hu d
  simp [execOp, hρ _ _ hx, hρ _ _ hy, eqGuard, binOp, h]

/-- 'x.(T)' without ok, where it holds that type. -/
theorem Ev.assertIs {T : TypeId} {d : TypeDesc} {u : Value} (hx : e.val x = some (.iface T u)) (hu : P.underlying T = some d) (hd : (match d with | .interface _ => false | _ => true) = true) : Ev P w e (.typeAssert x t T false) ty u := .of fun ρ hρ _ _ _ _ => by
  have h1 := run_underlying (w := w) hu
  simp only [execOp, hρ _ _ hx, Instr.typeAssert, Sem.run_bind, h1, Result.andThen]
  cases d <;> first | (simp; done) | simp at hd

theorem Ex.rangeS [Strm] {m : Nat} {o : Obj} {l : List KV} (H : SL w L) (T : MapSP P t k v) (hx : e.val x = some (.map (some m))) (hm : (m, o) ∈ L) (ho : Mp o l) :
    Ex P w e (.range t x) ty fun u w' => ∃ r oi, u = .pointer (some ⟨r, 0, none⟩) ∧ ItM o oi m [] l ∧ SL w' ((r, oi) :: L) := .of fun ρ hρ _ _ _ _ => by
  obtain ⟨es, clock, rfl, hw, hp⟩ := ho
  have hb := H.1 _ hm
  simp only [mapSO] at hb
  simp only [execOp, hρ _ _ hx, Instr.range, Sem.run_bind, run_underlying T.map, Result.andThen, MapKept.run_getObj_map hb, Sem.run_pure, run_newObj]
  exact ⟨w.heap.size, _, rfl, ItM.start hw hp, H.alloc _⟩

/-- What a step yields. -/
def nextV : Option KV → Array Value
  | none => #[.bool false]
  | some a => #[.bool true, sV a.1, a.2]
theorem nextV_0 (o : Option KV) : (nextV o)[0]? = some (.bool o.isSome) := by cases o <;> rfl

/-- One step of a range: what is still to come, whichever. -/
theorem Ex.nextS [Strm] {r m : Nat} {om oi : Obj} {kept rest : List KV} {M : Obj → List (Nat × Obj)} (H : SL w (M oi)) (hx : e.val x = some (.pointer (some ⟨r, 0, none⟩))) (hu : ∀ o', Upd r oi o' (M oi) (M o'))
    (hm : (m, om) ∈ M oi) (hi : ItM om oi m kept rest) :
    Ex P w e (.next x false) ty fun u w' => (rest = [] ∧ u = .tuple (nextV none) ∧ SL w' (M oi)) ∨
      ∃ a rest' oi', rest.Perm (a :: rest') ∧ u = .tuple (nextV (some a)) ∧ ItC om oi' m kept rest' a ∧ SL w' (M oi') := .of fun ρ hρ _ _ _ _ => by
  obtain ⟨es, clock, seen, rfl, rfl, hw, hk, hrest⟩ := hi
  have hb := H.1 _ hm
  have hr := H.1 _ (hu (iterO m clock seen clock)).mem
  simp only [mapSO] at hb
  simp only [iterO] at hr
  have hlt : r < w.heap.size := by
    rcases Nat.lt_or_ge r w.heap.size with h | h
    · exact h
    · rw [Array.getElem?_eq_none h] at hr; cases hr
  have hall : ∀ x ∈ ((es.map entS).toArray).toList, x.born < clock := fun x hx => by
    obtain ⟨a, ha, rfl⟩ := List.mem_map.1 hx
    exact hw.lt a ha
  have hleft : (leftOf (es.map entS).toArray seen.toArray).toList = (es.filter fun x => decide (x.2.2 ∉ seen)).map entS := by
    unfold leftOf
    rw [Array.toList_filter, List.filter_map]
    congr 1
    apply List.filter_congr
    intro a _
    rw [Bool.eq_iff_iff]
    simp [entS]
    exact decide_eq_false_iff_not
  rcases run_next_at (P := P) w ty r m clock clock seen.toArray (es.map entS).toArray clock hr hb hall (Nat.le_refl _) with ⟨h0, hrun⟩ | ⟨x, hxl, w1, hw1, hrun⟩
  · have e1 : (execOp ρ ⟨‹_›, .next x false, ty, ‹_›, ‹_›, ‹_›⟩).run P w = .ok (.value (.tuple #[.bool false])) w := by
      simp only [execOp, hρ _ _ hx, Sem.run_bind, hrun, Result.andThen, Sem.run_pure]
    rw [e1]
    refine .inl ⟨?_, rfl, H⟩
    rw [← Array.length_toList, hleft, List.length_map] at h0
    have := List.eq_nil_of_length_eq_zero h0
    rw [this] at hrest
    exact hrest.symm.eq_nil
  · rw [hleft] at hxl
    obtain ⟨a, ha, rfl⟩ := List.mem_map.1 hxl
    have ha2 := ha
    rw [List.mem_filter] at ha
    obtain ⟨hmem, hns⟩ := ha
    have hns := of_decide_eq_true hns
    have e1 : (execOp ρ ⟨‹_›, .next x false, ty, ‹_›, ‹_›, ‹_›⟩).run P w = .ok (.value (.tuple #[.bool true, sV a.1, a.2.1])) (ChangeMaps.setBlock w1 r (.mapIter (some m) clock (seen.toArray.push a.2.2) clock)) := by
      simp only [execOp, hρ _ _ hx, Sem.run_bind, hrun, Result.andThen, Sem.run_pure]
      rfl
    rw [e1]
    have e2 : Obj.mapIter (some m) clock (seen.toArray.push a.2.2) clock = iterO m clock (seen ++ [a.2.2]) clock := by
      unfold iterO
      congr 1
      apply Array.ext'
      simp
    have e3 := (filter_one_perm hw.born hmem (fun y => decide (y.2.2 ∉ seen)) (decide_eq_true hns)).map kvOf
    have e4 : (es.filter fun y => decide (y.2.2 ∉ seen) && decide (y.2.2 ≠ a.2.2)) = es.filter fun y => decide (y.2.2 ∉ seen ++ [a.2.2]) := by
      apply List.filter_congr
      intro y _
      rw [Bool.eq_iff_iff]
      simp
    rw [e4] at e3
    refine .inr ⟨kvOf a, (es.filter fun y => decide (y.2.2 ∉ seen ++ [a.2.2])).map kvOf, iterO m clock (seen ++ [a.2.2]) clock, hrest.symm.trans e3, rfl, ?_, ?_⟩
    · exact ⟨es, clock, seen, a.2.2, rfl, rfl, hw, hmem, hns, hk, .refl _⟩
    · rw [e2]
      have H1 : SL w1 (M (iterO m clock seen clock)) := by
        rcases hw1 with rfl | rfl
        · exact H
        · exact H.heap rfl ⟨rfl, rfl, rfl⟩
      have hlt1 : r < w1.heap.size := by rcases hw1 with rfl | rfl <;> exact hlt
      refine H1.upd (hu _) (by simp [ChangeMaps.setBlock, hlt1]) (fun c hc => ?_) ⟨rfl, rfl, rfl⟩
      simp [ChangeMaps.setBlock, Ne.symm hc]

theorem Ex.nextSO [Strm] {r m : Nat} {om oi : Obj} {kept rest : List KV} {M : Obj → List (Nat × Obj)} (H : SL w (M oi)) (hx : e.val x = some (.pointer (some ⟨r, 0, none⟩))) (hu : ∀ o', Upd r oi o' (M oi) (M o'))
    (hm : (m, om) ∈ M oi) (hi : ItM om oi m kept rest) :
    Ex P w e (.next x false) ty fun u w' => ∃ o oi', u = .tuple (nextV o) ∧ SL w' (M oi') ∧ (o = none → rest = [] ∧ oi' = oi) ∧ ∀ a, o = some a → ∃ rest', rest.Perm (a :: rest') ∧ ItC om oi' m kept rest' a := by
  refine (Ex.nextS H hx hu hm hi).mono ?_
  rintro u w' (⟨h0, rfl, H⟩ | ⟨a, rest', oi', hp, rfl, hi, H⟩)
  · exact ⟨none, oi, rfl, H, fun _ => ⟨h0, rfl⟩, fun a h => (by cases h)⟩
  · exact ⟨some a, oi', rfl, H, fun h => (by cases h), fun a' h => (by cases h; exact ⟨rest', hp, hi⟩)⟩

/-- The entry of this step. -/
theorem Ev.entryS [Strm] {r m : Nat} {om oi : Obj} {kept rest : List KV} {a : KV} (H : SL w L) (hx : e.val x = some (.pointer (some ⟨r, 0, none⟩))) (hr : (r, oi) ∈ L) (hm : (m, om) ∈ L) (hi : ItC om oi m kept rest a) :
    Ev P w e (.entry x) ty (.tuple #[sV a.1, a.2]) := .of fun ρ hρ _ _ _ _ => by
  obtain ⟨es, clock, seen, born, rfl, rfl, hw, hmem, _, _, _⟩ := hi
  have hb := H.1 _ hm
  have hr := H.1 _ hr
  simp only [mapSO] at hb
  have e2 : iterO m clock (seen ++ [born]) clock = Obj.mapIter (some m) clock (seen.toArray.push (entS (a.1, a.2, born)).born) clock := by
    unfold iterO
    congr 1
    apply Array.ext'
    simp [entS]
  rw [e2] at hr
  have h3 := run_entry_at (P := P) w r m clock seen.toArray (es.map entS).toArray clock (entS (a.1, a.2, born)) hr hb (List.mem_map_of_mem (f := entS) hmem) (by
    have : ((es.map entS).toArray.toList.map (·.born)) = es.map (·.2.2) := by simp [Function.comp_def, entS]
    rw [this]; exact hw.born)
  simp only [execOp, hρ _ _ hx, Sem.run_bind, h3, Result.andThen, Sem.run_pure]
  rfl

/-- 'delete(m, k)' of this step's entry. -/
theorem Ex.deleteC [Strm] {b : Nat} {om oi : Obj} {kept rest : List KV} {a : KV} {M : Obj → List (Nat × Obj)} (H : SL w (M om)) (T : MapSP P t k v) (hx : e.val x = some (.map (some b))) (hy : e.val y = some (sV a.1))
    (hu : ∀ o', Upd b om o' (M om) (M o')) (hi : ItC om oi b kept rest a) :
    Ex P w e (.call ⟨.builtin .delete, #[x, y], #[t, n]⟩) ty fun _ w' => ∃ om', ItM om' oi b kept rest ∧ SL w' (M om') := .of fun ρ hρ _ _ _ _ => by
  obtain ⟨es, clock, seen, born, rfl, rfl, hw, hmem, hns, hk, hrest⟩ := hi
  have hb := H.1 _ (hu (mapSO es clock)).mem
  have hlt : b < w.heap.size := by
    rcases Nat.lt_or_ge b w.heap.size with h | h
    · exact h
    · rw [Array.getElem?_eq_none h] at hb; cases hb
  have fin : ∀ o', SL { w with heap := w.heap.setIfInBounds b o' } (M o') := fun o' => by
    refine H.upd (hu o') (by simp [hlt]) (fun c hc => ?_) ⟨rfl, rfl, rfl⟩
    simp [Ne.symm hc]
  have hrun := run_deleteS (P := P) (n := n) (ty := ty) (h := a.1) T hb
  simp only [execOp, resolve, Go.invoke, builtin, Sem.run_bind, Sem.run_pure, Result.andThen, List.map_toArray, List.map_cons, List.map_nil, hρ _ _ hx, hρ _ _ hy, hrun]
  cases hf : fnd a.1 es 0 with
  | none => exact absurd rfl (fnd_none hf _ hmem)
  | some p =>
    obtain ⟨j, u⟩ := p
    obtain ⟨_, y, hy, hky, _⟩ := fnd_some hf
    rw [Nat.sub_zero] at hy
    have hye : y = (a.1, a.2, born) := by
      have hn := hw.keys
      have hm1 := List.mem_of_getElem? hy
      revert hn hm1 hmem
      clear hf hy hw hk hrest hrun hb fin H hu
      induction es with
      | nil => intro h; cases h
      | cons c r ih =>
        intro h1 h2 h3
        rw [List.map_cons, List.nodup_cons] at h2
        rcases List.mem_cons.1 h1 with g1 | g1 <;> rcases List.mem_cons.1 h3 with g3 | g3
        · rw [g1, g3]
        · exact absurd (by rw [← g1, ← hky]; exact List.mem_map_of_mem (f := fun a : Ent => a.1) g3) h2.1
        · exact absurd (by rw [← g3, hky]; exact List.mem_map_of_mem (f := fun a : Ent => a.1) g1) h2.1
        · exact ih g1 h2.2 g3
    subst hye
    obtain ⟨l1, l2, rfl, rfl⟩ := split_at hy
    simp only [eraseIdx_split]
    have hb1 := hw.born
    rw [List.map_append, List.map_cons, List.nodup_append] at hb1
    have n1 : ∀ y ∈ l1, y.2.2 ≠ born := fun y hy => hb1.2.2 _ (List.mem_map_of_mem (f := fun a : Ent => a.2.2) hy) _ (.head _)
    have n2 : ∀ y ∈ l2, y.2.2 ≠ born := fun y hy h => by
      have h4 := (List.nodup_cons.1 hb1.2.1).1
      simp only at h4
      rw [← h] at h4
      exact h4 (List.mem_map_of_mem (f := fun a : Ent => a.2.2) hy)
    have hne : ∀ y ∈ l1 ++ l2, y.2.2 ≠ born := fun y hy => by
      rcases List.mem_append.1 hy with h | h
      · exact n1 y h
      · exact n2 y h
    refine ⟨_, ⟨l1 ++ l2, clock, seen ++ [born], rfl, rfl, hw.del, ?_, ?_⟩, fin _⟩
    · refine List.Perm.trans ?_ hk
      have e1 : ((l1 ++ (a.1, a.2, born) :: l2).filter fun y => decide (y.2.2 ∈ seen)) = (l1 ++ l2).filter fun y => decide (y.2.2 ∈ seen) := by
        rw [List.filter_append, List.filter_cons, List.filter_append]
        simp [hns]
      rw [e1]
      have e2 : ((l1 ++ l2).filter fun y => decide (y.2.2 ∈ seen ++ [born])) = (l1 ++ l2).filter fun y => decide (y.2.2 ∈ seen) := by
        apply List.filter_congr
        intro y hy
        rw [Bool.eq_iff_iff]
        simp [hne y hy]
      rw [e2]
    · refine List.Perm.trans ?_ hrest
      have e1 : ((l1 ++ (a.1, a.2, born) :: l2).filter fun y => decide (y.2.2 ∉ seen ++ [born])) = (l1 ++ l2).filter fun y => decide (y.2.2 ∉ seen ++ [born]) := by
        rw [List.filter_append, List.filter_cons, List.filter_append]
        simp
      rw [e1]

/-- maps.Clone's own copy. -/
theorem Ex.copyMapS [Strm] {f m : Nat} {o : Obj} {l : List KV} {T : TypeId} {ls : List Operand} {ats : Array TypeId} {fn : Func} (H : SL w L) (hl : e.vals ls = some [.iface T (.map (some m))]) (hm : (m, o) ∈ L) (ho : Mp o l) (hf : P.funcs[f]? = some fn) (hname : (fn.name == "runtime.NumGoroutine") = false)
    (hb : fn.body.isNone = true) (hn : Extern.findNext fn = none) (he : Extern.find fn = some Extern.MapsClone.clone) :
    Ex P w e (.call ⟨.value (.func f), ls.toArray, ats⟩) ty fun u w' => ∃ m2 o2, u = .iface T (.map (some m2)) ∧ Mp o2 l ∧ SL w' ((m2, o2) :: L) := by
  have ho2 := ho
  obtain ⟨es, clock, rfl, hw, hp⟩ := ho
  have hbm := H.1 _ hm
  simp only [mapSO] at hbm
  have h2 : (Extern.MapsClone.clone [Value.iface T (.map (some m))].toArray).run P w = .ok (.iface T (.map (some w.heap.size))) (w.alloc (mapSO es clock)) := by
    show Sem.run P (α := Value) (do
      let .map entries clock ← getObj m | stuck "maps.clone: a map expected"
      pure (Value.iface T (.map (some (← newObj (.map entries clock)))))) w = _
    simp only [Sem.run_bind, MapKept.run_getObj_map hbm, Result.andThen, run_newObj, Sem.run_pure]
    rfl
  refine (Ex.callX hl (v := .iface T (.map (some w.heap.size))) (w' := w.alloc (mapSO es clock)) ?_).mono ?_
  · rw [run_callFunc_extern hf hname hb hn he, h2]
    rfl
  · rintro u w' ⟨rfl, rfl⟩
    exact ⟨_, _, rfl, ho2, H.alloc _⟩

end
end Go.Proofs.YtdppnaahdilkcaaGreatDoor.V
end

section
/-
  The engine: numbers: what came in, as what is appended; of one's own, as what is read.
-/
namespace Go.Proofs.YtdppnaahdilkcaaGreatDoor.V

/-- What came in, cell by cell, as what is appended. -/
theorem Els.src [Strm] {α : Type} {w : World} {L : List (Nat × Obj)} {R : Value → α → Prop} {g : α → Value} {v : Value} {xs : List α} (H : SL w L) (h : Els L R v xs) (hR : ∀ v x, R v x → v = g x) : Src w 1 v xs.length (xs.flatMap fun x => [g x]) := by
  cases h with
  | nil => exact .nil _
  | empty a c => exact .slice _ _ _ _ (by simp) fun i v hi => by simp at hi
  | blk b off c xs hc hr =>
    refine .slice _ _ _ _ (by rw [flatMap_one]; simp) fun i v hi => ?_
    rw [flatMap_one, List.getElem?_map] at hi
    obtain ⟨x, hx, rfl⟩ := Option.map_eq_some_iff.1 hi
    obtain ⟨u, hu, hR'⟩ := hr i x hx
    rw [hR u x hR'] at hu
    rw [add_none]
    exact Rd.cell H hu

abbrev gI (z : Int) : List Value := [.int .i64 z]

/-- Numbers of one's own, as what is read. -/
theorem Slc.ints {L B : List (Nat × Obj)} {T : TypeId} {v : Value} {zs : List Int} (h : Slc gI 1 T v zs B) (hw : ∀ z ∈ zs, (Lit.int .i64 z).wf = true) : IntsIn .i64 (B ++ L) v zs := by
  cases h with
  | nil => exact .nil
  | blk b xs cap spare fr h1 h2 h3 =>
    refine .blk b 0 cap zs h2 fun i x hi => ⟨.int .i64 x, ?_, rfl, hw x (List.mem_of_getElem? hi)⟩
    rw [Nat.zero_add]
    refine Rd.mk (.head _) ?_
    have hlt : i < zs.length := by
      rcases Nat.lt_or_ge i zs.length with h | h
      · exact h
      · rw [List.getElem?_eq_none h] at hi; cases hi
    rw [List.getElem?_toArray, flatMap_one, List.getElem?_append_left (by simpa using hlt), List.getElem?_map, hi]
    rfl

theorem IntsIn.wf {k : IntKind} {L : List (Nat × Obj)} {v : Value} {zs : List Int} (h : IntsIn k L v zs) : ∀ z ∈ zs, (Lit.int k z).wf = true := by
  intro z hz
  obtain ⟨i, hi⟩ := List.getElem?_of_mem hz
  cases h with
  | nil => simp at hi
  | empty a c => simp at hi
  | blk b off c xs hc hr => obtain ⟨_, _, _, hw⟩ := hr i z hi; exact hw

/-- A slice of one's own, element by element. -/
theorem Slc.els {α : Type} {g : α → Value} {L B : List (Nat × Obj)} {T : TypeId} {v : Value} {xs : List α} (h : Slc (fun x => [g x]) 1 T v xs B) : Els (B ++ L) (fun u x => u = g x) v xs := by
  cases h with
  | nil => exact .nil
  | blk b xs cap spare fr h1 h2 h3 =>
    refine .blk b 0 cap xs h2 fun i x hi => ⟨g x, ?_, rfl⟩
    rw [Nat.zero_add]
    refine Rd.mk (.head _) ?_
    have hlt : i < xs.length := by
      rcases Nat.lt_or_ge i xs.length with h | h
      · exact h
      · rw [List.getElem?_eq_none h] at hi; cases hi
    rw [List.getElem?_toArray, flatMap_one, List.getElem?_append_left (by simpa using hlt), List.getElem?_map, hi]
    rfl

theorem map_getD {α β : Type} {l : List α} {f : α → β} {i : Nat} {d : α} (h : i < l.length) : (l.map f)[i]? = some (f (l.getD i d)) := by
  simp [List.getD_eq_getElem?_getD, h]

end Go.Proofs.YtdppnaahdilkcaaGreatDoor.V
end

section
/-
  The sort by what lies in memory; strings in a row.
-/
namespace Go.Proofs.YtdppnaahdilkcaaGreatDoor.V
open Go.Sort

abbrev gT (x : List UInt8) : List Value := [sV x]

theorem SL.grow [Strm] {w : World} {L : List (Nat × Obj)} (h : SL w L) (os : Array Obj) : SL (grow w os) L := by
  refine ⟨fun p hp => ?_, h.2.1, h.2.2⟩
  have h1 := h.1 p hp
  have hlt := h.lt hp
  show (w.heap ++ os)[p.1]? = _
  rw [Array.getElem?_append_left hlt]
  exact h1

/-- A row that is written over. -/
theorem SL.putRow [Strm] {α : Type} [Inhabited α] {w : World} {F : List (Nat × Obj)} {b n : Nat} {cs : Array Value} {T : TypeId} {fr : Nat × Nat} {enc : α → Value} {d : Array α} (h : SL w ((b, .cells cs T fr) :: F)) :
    SL (putRow enc (Sort.ahead w n) b 0 d) ((b, .cells (putCells enc 0 d cs) T fr) :: F) := by
  have hb := h.1 _ (.head _)
  simp only at hb
  refine h.upd u0 ?_ (fun c hc => ?_) ⟨rfl, rfl, rfl⟩
  · show (w.heap.modify b (onCells (putCells enc 0 d)))[b]? = _
    rw [Array.getElem?_modify, if_pos rfl, hb]
    rfl
  · show (w.heap.modify b (onCells (putCells enc 0 d)))[c]? = _
    rw [Array.getElem?_modify, if_neg (Ne.symm hc)]

theorem putCells_map {α : Type} [Inhabited α] {f : α → Value} {xs ys : List α} {sp : List Value} (h : ys.length = xs.length) : putCells f 0 ys.toArray (xs.map f ++ sp).toArray = (ys.map f ++ sp).toArray := by
  apply Array.ext_getElem?
  intro i
  simp only [putCells, Array.getElem?_mapIdx, List.getElem?_toArray, Nat.zero_add, Nat.zero_le, true_and, List.size_toArray, Nat.sub_zero]
  by_cases hi : i < ys.length
  · rw [List.getElem?_append_left (by simp; omega), List.getElem?_append_left (by simp; omega), List.getElem?_map, List.getElem?_map, List.getElem?_eq_getElem (by omega), List.getElem?_eq_getElem hi]
    simp [hi]
  · rw [List.getElem?_append_right (by simp; omega), List.getElem?_append_right (by simp; omega), List.length_map, List.length_map, h]
    cases hs : sp[i - xs.length]? with
    | none => rfl
    | some u => simp [hi]; omega

theorem holds_of [Strm] {α : Type} [Inhabited α] {w : World} {F : List (Nat × Obj)} {b cap : Nat} {f : α → Value} {xs : List α} {sp : List Value} {T : TypeId} {fr : Nat × Nat} (h : SL w ((b, .cells (xs.map f ++ sp).toArray T fr) :: F)) (ht : Thaw fr 0 cap) (hc : xs.length ≤ cap) :
    Holds f w b 0 xs.toArray := fun j hj => by
  have hb := h.1 _ (.head _)
  simp only at hb
  have hj : j < xs.length := by simpa using hj
  constructor
  · refine (Rd.cell h (Rd.mk (.head _) ?_))
    rw [Nat.zero_add, List.getElem?_toArray, List.getElem?_append_left (by simpa using hj), List.getElem?_map, List.getElem?_eq_getElem hj]
    simp [hj]
  · have := ht.not j (Nat.zero_le _) (by omega)
    unfold World.frozen?
    simp only [hb]
    rw [Nat.zero_add]
    rw [Bool.eq_false_iff]
    intro hh
    simp only [Bool.and_eq_true, decide_eq_true_eq] at hh
    exact this hh

/-- Sorted strings: of those that are given, in the order of strings. -/
def srtS (ss : List (List UInt8)) : List (List UInt8) := ss.mergeSort fun x y => decide (x ≤ y)
def srtN (zs : List Int) : List Int := zs.mergeSort fun x y => decide (x ≤ y)

end Go.Proofs.YtdppnaahdilkcaaGreatDoor.V
namespace Go.Proofs.YtdppnaahdilkcaaGreatDoor
open Go.Proofs.YtdppnaahdilkcaaGreatDoor.V
open Go.Sort

theorem sortS_spec [Strm] (v : Value) (ss : List (List UInt8)) (B : List (Nat × Obj)) (hl : ss.length ≤ 1000000) (w : World) (F : List (Nat × Obj)) (hs : Slc gT 1 9 v ss B) (H : SL w (B ++ F)) :
    Does Tryz.prog 289 #[v] w fun r w' => r = .tuple #[] ∧ ∃ B', Slc gT 1 9 v (srtS ss) B' ∧ SL w' (B' ++ F) := by
  cases hs with
  | nil =>
    refine .of ((srt_string_none none 0 w).mono ?_)
    rintro e w' ⟨rfl, rfl⟩
    exact ⟨_, rfl, rfl, [], by rw [show srtS [] = [] by simp [srtS]]; exact .nil, H⟩
  | blk b xs cap sp fr hc hle ht =>
    rw [Nat.mul_one] at ht
    rw [List.singleton_append, flatMap_one] at H
    have hlen : (srtS ss).length = ss.length := by simp [srtS]
    refine .of ((srt_string b 0 cap ss w (holds_of H ht hle) (H.lt (.head _)) (by omega)).mono ?_)
    rintro e w' ⟨rfl, n, os, rfl⟩
    refine ⟨_, rfl, rfl, [(b, .cells ((srtS ss).flatMap gT ++ sp).toArray 9 fr)], ?_, ?_⟩
    · have := Slc.blk (g := gT) (sz := 1) (T := 9) b (srtS ss) cap sp fr (by rw [hlen]; exact hc) (by omega) (by rw [Nat.mul_one]; exact ht)
      rw [hlen] at this
      exact this
    · rw [List.singleton_append, flatMap_one]
      have h1 := (H.putRow (enc := encStr) (n := n) (d := (srtS ss).toArray)).grow os
      rw [putCells_map hlen] at h1
      exact h1

theorem sortN_spec [Strm] (v : Value) (zs : List Int) (B : List (Nat × Obj)) (hl : zs.length ≤ 1000000) (w : World) (F : List (Nat × Obj)) (hs : Slc gI 1 3 v zs B) (H : SL w (B ++ F)) :
    Does Tryz.prog 34 #[v] w fun r w' => r = .tuple #[] ∧ ∃ B', Slc gI 1 3 v (srtN zs) B' ∧ SL w' (B' ++ F) := by
  cases hs with
  | nil =>
    refine .of ((srt_int_none none 0 w).mono ?_)
    rintro e w' ⟨rfl, rfl⟩
    exact ⟨_, rfl, rfl, [], by rw [show srtN [] = [] by simp [srtN]]; exact .nil, H⟩
  | blk b xs cap sp fr hc hle ht =>
    rw [Nat.mul_one] at ht
    rw [List.singleton_append, flatMap_one] at H
    have hlen : (srtN zs).length = zs.length := by simp [srtN]
    refine .of ((srt_int b 0 cap zs w (holds_of H ht hle) (H.lt (.head _)) (by omega)).mono ?_)
    rintro e w' ⟨rfl, n, os, rfl⟩
    refine ⟨_, rfl, rfl, [(b, .cells ((srtN zs).flatMap gI ++ sp).toArray 3 fr)], ?_, ?_⟩
    · have := Slc.blk (g := gI) (sz := 1) (T := 3) b (srtN zs) cap sp fr (by rw [hlen]; exact hc) (by omega) (by rw [Nat.mul_one]; exact ht)
      rw [hlen] at this
      exact this
    · rw [List.singleton_append, flatMap_one]
      have h1 := (H.putRow (enc := Value.int .i64) (n := n) (d := (srtN zs).toArray)).grow os
      rw [putCells_map hlen] at h1
      exact h1

end Go.Proofs.YtdppnaahdilkcaaGreatDoor
end
