/-
  The proof's parts, in one file: VMapS, VRanS, VInts, ShI, ShE, ShW, ShR.
-/
import Derived.Test.YtflfaiakenahlaaGreatDoorM2
import Derived.Maps.RangeRun

section
/-
  The engine: maps of one's own, keyed by strings; strings by their order.
-/
namespace Go.Proofs.YtflfaiakenahlaaGreatDoor.V
open Go.ChangeShapes Go.WideShapes

abbrev sV (h : List UInt8) : Value := .string ⟨h.toArray⟩

theorem sV_inj {a b : List UInt8} (h : sV a = sV b) : a = b := by
  have h1 := congrArg ByteArray.data (Value.string.inj h)
  exact List.toArray_inj h1

theorem sV_beq (a b : List UInt8) : ((⟨a.toArray⟩ : ByteArray) == ⟨b.toArray⟩) = decide (a = b) := by
  show (a.toArray == b.toArray) = _
  rw [Bool.eq_iff_iff, beq_iff_eq, decide_eq_true_iff]
  exact ⟨fun h => List.toArray_inj h, fun h => by rw [h]⟩

/-! ### The order of strings -/

theorem bytesLess_eq : ∀ a b : List UInt8, Op.bytesLess a b = decide (a < b)
  | _, [] => by
    unfold Op.bytesLess
    exact (decide_eq_false (List.not_lt_nil _)).symm
  | [], _ :: _ => by
    unfold Op.bytesLess
    exact (decide_eq_true (List.nil_lt_cons _ _)).symm
  | a :: x, b :: y => by
    unfold Op.bytesLess
    rw [bytesLess_eq x y, Bool.eq_iff_iff, decide_eq_true_iff, List.cons_lt_cons_iff]
    simp only [Bool.or_eq_true, Bool.and_eq_true, decide_eq_true_iff, beq_iff_eq]

section
variable {P : Program} {w : World} {e : Env} {ty t t' k v n : TypeId} {x y z : Operand} {L L' : List (Nat × Obj)} {cs bs : List UInt8}
theorem Ev.strLss {r : Bool} (hx : e.val x = some (sV cs)) (hy : e.val y = some (sV bs)) (hr : decide (cs < bs) = r := by rfl) : Ev P w e (.binOp .lss t x y t') ty (.bool r) := .of fun ρ hρ _ _ _ _ => by
  subst hr
  rw [← bytesLess_eq]
  simp [execOp, hρ _ _ hx, hρ _ _ hy, eqGuard, binOp, Op.stringOp, toList_data]

theorem Ev.strEqR {r : Bool} (hx : e.val x = some (sV cs)) (hy : e.val y = some (sV bs)) (hr : decide (cs = bs) = r := by rfl) : Ev P w e (.binOp .eql t x y t') ty (.bool r) := by
  have := Ev.strEqB (P := P) (w := w) (ty := ty) (t := t) (t' := t') hx hy
  rwa [show (cs == bs) = r from by rw [← hr, Bool.eq_iff_iff]; simp] at this
theorem Ev.strNeR {r : Bool} (hx : e.val x = some (sV cs)) (hy : e.val y = some (sV bs)) (hr : decide (cs ≠ bs) = r := by rfl) : Ev P w e (.binOp .neq t x y t') ty (.bool r) := by
  have := Ev.strNeB (P := P) (w := w) (ty := ty) (t := t) (t' := t') hx hy
  rwa [show (!(cs == bs)) = r from by rw [← hr, Bool.eq_iff_iff]; simp] at this
theorem Ev.lenStrL {ats : Array TypeId} (hx : e.val x = some (sV cs)) (ha : ats[0]? = some t) (hu : P.underlying t = some .string) :
    Ev P w e (.call ⟨.builtin .len, #[x], ats⟩) ty (.int .i64 (cs.length : Nat)) :=
  Ev.lenStr (P := P) (w := w) (ty := ty) hx ha hu
end

/-! ### Maps -/

structure MapSP (P : Program) (t k v : Nat) : Prop where
  map : P.underlying t = some (.map k v)
  key : P.underlying k = some .string

def entS (x : Ent) : MapEntry := { key := sV x.1, val := x.2.1, born := x.2.2 }
def mapSO (es : List Ent) (clock : Nat) : Obj := .map (es.map entS).toArray clock

/-- What is found at a key: the place, the value. -/
def fnd (h : List UInt8) : List Ent → Nat → Option (Nat × Value)
  | [], _ => none
  | x :: r, i => if x.1 = h then some (i, x.2.1) else fnd h r (i + 1)

theorem fnd_none {h : List UInt8} : ∀ {es : List Ent} {i : Nat}, fnd h es i = none → ∀ x ∈ es, x.1 ≠ h
  | [], _, _, x, hx => by cases hx
  | y :: r, i, hf, x, hx => by
    unfold fnd at hf
    split at hf
    · cases hf
    · rcases List.mem_cons.1 hx with rfl | hx
      · assumption
      · exact fnd_none hf x hx

theorem fnd_some {h : List UInt8} : ∀ {es : List Ent} {i j : Nat} {v : Value}, fnd h es i = some (j, v) → i ≤ j ∧ ∃ x, es[j - i]? = some x ∧ x.1 = h ∧ v = x.2.1
  | [], _, _, _, hf => by cases hf
  | y :: r, i, j, v, hf => by
    unfold fnd at hf
    split at hf
    · cases hf
      exact ⟨Nat.le_refl _, y, by simp, by assumption, rfl⟩
    · obtain ⟨h1, x, h2, h3, h4⟩ := fnd_some hf
      refine ⟨by omega, x, ?_, h3, h4⟩
      rw [show j - i = (j - (i + 1)) + 1 by omega]
      simpa using h2

theorem findNow_str (h : List UInt8) : ∀ (es : List Ent) (i : Nat), Instr.findNow .string (sV h) (es.map entS) i = some (fnd h es i)
  | [], _ => rfl
  | x :: r, i => by
    have e1 : Instr.sameNow .string (sV h) (entS x).key = some (decide (x.1 = h)) := by
      show some ((⟨h.toArray⟩ : ByteArray) == ⟨x.1.toArray⟩) = _
      rw [sV_beq]
      congr 1
      rw [Bool.eq_iff_iff, decide_eq_true_iff, decide_eq_true_iff]
      exact eq_comm
    rw [List.map_cons]
    unfold Instr.findNow
    rw [e1]
    unfold fnd
    by_cases hx : x.1 = h
    · simp only [hx, decide_true, if_true]; rfl
    · simp only [hx, decide_false, if_false]
      exact findNow_str h r (i + 1)

section
variable {P : Program} {w : World} {e : Env} {ty t k v n : TypeId} {x y z : Operand} {L L' : List (Nat × Obj)}

theorem run_findS (T : MapSP P t k v) (es : List Ent) (h : List UInt8) (w : World) : (Instr.findKey k (sV h) (es.map entS)).run P w = .ok (fnd h es 0) w := by
  simp [Instr.findKey, run_underlying T.key, findNow_str]

theorem run_checkS (T : MapSP P t k v) (em : Bool) (h : List UInt8) (w : World) : (Instr.checkKey em 10000 k (sV h)).run P w = .ok () w := by
  unfold Instr.checkKey
  simp [run_underlying T.key]

theorem run_staysS (h : List UInt8) (w : World) : (Instr.keyThatStays (sV h) (sV h)).run P w = .ok (sV h) w := by
  have : Instr.sameBits 10000 (sV h) (sV h) = true := by
    show ((⟨h.toArray⟩ : ByteArray) == ⟨h.toArray⟩) = true
    rw [sV_beq]
    exact decide_eq_true rfl
  simp [Instr.keyThatStays, this]

/-! #### Maps, told by what they hold -/

abbrev KV := List UInt8 × Value
def kvOf (x : Ent) : KV := (x.1, x.2.1)
structure WfE (es : List Ent) (clock : Nat) : Prop where
  keys : (es.map (·.1)).Nodup
  born : (es.map (·.2.2)).Nodup
  lt : ∀ x ∈ es, x.2.2 < clock

/-- The object is a map that holds l. -/
def Mp (o : Obj) (l : List KV) : Prop := ∃ es clock, o = mapSO es clock ∧ WfE es clock ∧ (es.map kvOf).Perm l

/-- What stands at a key. -/
def atK (l : List KV) (h : List UInt8) : Option Value := (l.find? fun x => decide (x.1 = h)).map (·.2)

theorem atK_none {l : List KV} {h : List UInt8} : atK l h = none ↔ ∀ x ∈ l, x.1 ≠ h := by
  unfold atK
  rw [Option.map_eq_none_iff, List.find?_eq_none]
  simp

theorem atK_mem {l : List KV} {h : List UInt8} {u : Value} (hn : (l.map (·.1)).Nodup) : atK l h = some u ↔ (h, u) ∈ l := by
  induction l with
  | nil => simp [atK]
  | cons x r ih =>
    rw [List.map_cons, List.nodup_cons] at hn
    unfold atK at ih ⊢
    rw [List.find?_cons]
    by_cases hx : x.1 = h
    · simp only [hx, decide_true, Option.map_some, Option.some.injEq, List.mem_cons]
      constructor
      · rintro rfl; exact .inl (by rw [← hx])
      · rintro (h1 | h1)
        · rw [← h1]
        · exact absurd (List.mem_map_of_mem (f := fun y : KV => y.1) h1) (by rw [hx] at hn; exact hn.1)
    · simp only [hx, decide_false, ih hn.2, List.mem_cons]
      constructor
      · exact .inr
      · rintro (h1 | h1)
        · exact absurd (by rw [← h1]) hx
        · exact h1

theorem Mp.nodup {o : Obj} {l : List KV} (h : Mp o l) : (l.map (·.1)).Nodup := by
  obtain ⟨es, clock, _, hw, hp⟩ := h
  have : ((es.map kvOf).map (·.1)).Nodup := by rw [List.map_map]; exact hw.keys
  exact ((hp.map _).nodup_iff).1 this

theorem Mp.perm {o : Obj} {l l' : List KV} (h : Mp o l) (hp : l.Perm l') : Mp o l' := by
  obtain ⟨es, clock, h1, h2, h3⟩ := h
  exact ⟨es, clock, h1, h2, h3.trans hp⟩

theorem atK_perm {l l' : List KV} (hp : l.Perm l') (hn : (l.map (·.1)).Nodup) (h : List UInt8) : atK l h = atK l' h := by
  have hn' : (l'.map (·.1)).Nodup := ((hp.map _).nodup_iff).1 hn
  apply Option.ext
  intro u
  rw [atK_mem hn, atK_mem hn']
  exact hp.mem_iff

theorem fnd_atK {es : List Ent} {clock : Nat} (hw : WfE es clock) (h : List UInt8) : (fnd h es 0).map (·.2) = atK (es.map kvOf) h := by
  have hn : ((es.map kvOf).map (·.1)).Nodup := by rw [List.map_map]; exact hw.keys
  cases hf : fnd h es 0 with
  | none =>
    symm
    rw [Option.map_none, atK_none]
    intro x hx
    obtain ⟨y, hy, rfl⟩ := List.mem_map.1 hx
    exact fnd_none hf y hy
  | some p =>
    obtain ⟨j, u⟩ := p
    obtain ⟨_, y, hy, h1, h2⟩ := fnd_some hf
    symm
    rw [Option.map_some, atK_mem hn]
    refine List.mem_map.2 ⟨y, List.mem_of_getElem? hy, ?_⟩
    unfold kvOf
    rw [h1, h2]

theorem Ex.makeMapS [Strm] (H : SL w L) : Ex P w e (.makeMap t none) ty fun u w' => ∃ b o, u = .map (some b) ∧ Mp o [] ∧ SL w' ((b, o) :: L) := by
  refine (Ex.makeMap H).mono ?_
  rintro u w' ⟨b, rfl, H⟩
  exact ⟨b, _, rfl, ⟨[], 0, rfl, ⟨.nil, .nil, fun x hx => by cases hx⟩, .nil⟩, H⟩

/-- 'v, ok = m[k]'. -/
theorem Ev.lookupS [Strm] {b : Nat} {o : Obj} {l : List KV} {h : List UInt8} {zv : Value} (H : SL w L) (T : MapSP P t k v) (hx : e.val x = some (.map (some b))) (hy : e.val y = some (sV h)) (hm : (b, o) ∈ L) (ho : Mp o l)
    (hz : zeroT P v = some zv) : Ev P w e (.lookup t x y true) ty (.tuple #[(atK l h).getD zv, .bool (atK l h).isSome]) := .of fun ρ hρ _ _ _ _ => by
  have hnd := ho.nodup
  obtain ⟨es, clock, rfl, hw, hp⟩ := ho
  have hb := H.1 _ hm
  simp only [mapSO] at hb
  have hzr : (zeroValue v).run P w = .ok zv w := by
    unfold zeroT at hz
    cases hi : P.info? v with
    | none => rw [hi] at hz; cases hz
    | some i => rw [hi] at hz; simp only [Option.bind_some] at hz; simp [zeroValue, typeInfo, hi, hz]
  have e1 : atK l h = (fnd h es 0).map (·.2) := by
    rw [fnd_atK hw]
    exact (atK_perm hp (((hp.map _).nodup_iff).2 hnd) h).symm
  rw [e1]
  simp only [execOp, hρ _ _ hx, hρ _ _ hy, Instr.lookup, Sem.run_bind, run_underlying T.map, Result.andThen, MapKept.run_getObj_map hb, Sem.run_pure, run_checkS T, run_findS T]
  cases hf : fnd h es 0 with
  | none => simp [hzr]
  | some p => obtain ⟨j, u⟩ := p; simp

/-- 'm[k]'. -/
theorem Ev.lookupS1 [Strm] {b : Nat} {o : Obj} {l : List KV} {h : List UInt8} {zv : Value} (H : SL w L) (T : MapSP P t k v) (hx : e.val x = some (.map (some b))) (hy : e.val y = some (sV h)) (hm : (b, o) ∈ L) (ho : Mp o l)
    (hz : zeroT P v = some zv) : Ev P w e (.lookup t x y false) ty ((atK l h).getD zv) := .of fun ρ hρ _ _ _ _ => by
  have hnd := ho.nodup
  obtain ⟨es, clock, rfl, hw, hp⟩ := ho
  have hb := H.1 _ hm
  simp only [mapSO] at hb
  have hzr : (zeroValue v).run P w = .ok zv w := by
    unfold zeroT at hz
    cases hi : P.info? v with
    | none => rw [hi] at hz; cases hz
    | some i => rw [hi] at hz; simp only [Option.bind_some] at hz; simp [zeroValue, typeInfo, hi, hz]
  have e1 : atK l h = (fnd h es 0).map (·.2) := by
    rw [fnd_atK hw]
    exact (atK_perm hp (((hp.map _).nodup_iff).2 hnd) h).symm
  rw [e1]
  simp only [execOp, hρ _ _ hx, hρ _ _ hy, Instr.lookup, Sem.run_bind, run_underlying T.map, Result.andThen, MapKept.run_getObj_map hb, Sem.run_pure, run_checkS T, run_findS T]
  cases hf : fnd h es 0 with
  | none => simp [hzr]
  | some p => obtain ⟨j, u⟩ := p; simp

/-- l with u at h. -/
def putK (l : List KV) (h : List UInt8) (u : Value) : List KV := (h, u) :: l.filter fun x => decide (x.1 ≠ h)
def delK (l : List KV) (h : List UInt8) : List KV := l.filter fun x => decide (x.1 ≠ h)

theorem delK_fresh {l : List KV} {h : List UInt8} (hn : ∀ x ∈ l, x.1 ≠ h) : delK l h = l := by
  unfold delK
  rw [List.filter_eq_self]
  intro x hx
  exact decide_eq_true (hn x hx)

theorem split_at {es : List Ent} {j : Nat} {x : Ent} (h : es[j]? = some x) : ∃ l1 l2, es = l1 ++ x :: l2 ∧ l1.length = j := by
  have hlt : j < es.length := by
    rcases Nat.lt_or_ge j es.length with h1 | h1
    · exact h1
    · rw [List.getElem?_eq_none h1] at h; cases h
  rw [List.getElem?_eq_getElem hlt] at h
  cases h
  exact ⟨es.take j, es.drop (j + 1), by rw [← List.drop_eq_getElem_cons hlt, List.take_append_drop], by rw [List.length_take]; omega⟩

theorem del_split {l1 l2 : List Ent} {x : Ent} (hk : ((l1 ++ x :: l2).map (·.1)).Nodup) : delK ((l1 ++ x :: l2).map kvOf) x.1 = (l1 ++ l2).map kvOf := by
  rw [List.map_append, List.map_cons, List.nodup_append] at hk
  obtain ⟨_, h2, h3⟩ := hk
  rw [List.nodup_cons] at h2
  unfold delK
  rw [List.map_append, List.map_cons, List.filter_append, List.filter_cons, List.map_append]
  have e1 : ((l1.map kvOf).filter fun y => decide (y.1 ≠ x.1)) = l1.map kvOf := by
    rw [List.filter_eq_self]
    intro y hy
    obtain ⟨z, hz, rfl⟩ := List.mem_map.1 hy
    exact decide_eq_true (h3 _ (List.mem_map_of_mem hz) _ (.head _))
  have e2 : ((l2.map kvOf).filter fun y => decide (y.1 ≠ x.1)) = l2.map kvOf := by
    rw [List.filter_eq_self]
    intro y hy
    obtain ⟨z, hz, rfl⟩ := List.mem_map.1 hy
    exact decide_eq_true fun he => h2.1 (by rw [← he]; exact List.mem_map_of_mem (f := fun a : Ent => a.1) hz)
  rw [e1, e2]
  simp [kvOf]

theorem putK_perm {l l' : List KV} (hp : l.Perm l') (h : List UInt8) (u : Value) : (putK l h u).Perm (putK l' h u) := (hp.filter _).cons _

/-- 'm[k] = v'. -/
theorem Ex.mapUpdateS [Strm] {b : Nat} {o : Obj} {l : List KV} {h : List UInt8} {u : Value} {M : Obj → List (Nat × Obj)} (H : SL w (M o)) (T : MapSP P t k v) (hx : e.val x = some (.map (some b))) (hy : e.val y = some (sV h)) (hv : e.val z = some u)
    (hu : ∀ o', Upd b o o' (M o) (M o')) (ho : Mp o l) :
    Ex P w e (.mapUpdate t x y z) ty fun _ w' => ∃ o', Mp o' (putK l h u) ∧ SL w' (M o') := .of fun ρ hρ _ _ _ _ => by
  obtain ⟨es, clock, rfl, hw, hp⟩ := ho
  have hb0 := H.1 _ (hu (mapSO es clock)).mem
  have hb := hb0
  simp only [mapSO] at hb
  have hlt : b < w.heap.size := by
    rcases Nat.lt_or_ge b w.heap.size with h | h
    · exact h
    · rw [Array.getElem?_eq_none h] at hb; cases hb
  have fin : ∀ o', SL { w with heap := w.heap.setIfInBounds b o' } (M o') := fun o' => by
    refine H.upd (hu o') (by simp [hlt]) (fun c hc => ?_) ⟨rfl, rfl, rfl⟩
    simp [Ne.symm hc]
  simp only [execOp, hρ _ _ hx, hρ _ _ hy, hρ _ _ hv, Instr.mapUpdate, Sem.run_bind, run_underlying T.map, Result.andThen, MapKept.run_getObj_map hb, run_checkS T, run_findS T]
  cases hf : fnd h es 0 with
  | none =>
    have hnone := fnd_none hf
    simp only [MapKept.run_setObj_map _ hb]
    have e1 : Obj.map ((es.map entS).toArray.push { key := sV h, val := u, born := clock }) (clock + 1) = mapSO (es ++ [(h, u, clock)]) (clock + 1) := by
      simp [mapSO, entS]
    rw [e1]
    refine ⟨_, ⟨es ++ [(h, u, clock)], clock + 1, rfl, ⟨?_, ?_, ?_⟩, ?_⟩, fin _⟩
    · rw [List.map_append, List.nodup_append]
      refine ⟨hw.keys, by simp, ?_⟩
      intro a ha c hc
      simp only [List.map_cons, List.map_nil, List.mem_singleton] at hc
      subst hc
      obtain ⟨y, hy, rfl⟩ := List.mem_map.1 ha
      exact hnone y hy
    · rw [List.map_append, List.nodup_append]
      refine ⟨hw.born, by simp, ?_⟩
      intro a ha c hc
      simp only [List.map_cons, List.map_nil, List.mem_singleton] at hc
      subst hc
      obtain ⟨y, hy, rfl⟩ := List.mem_map.1 ha
      have := hw.lt y hy
      omega
    · intro y hy
      rcases List.mem_append.1 hy with hy | hy
      · have := hw.lt y hy; omega
      · rw [List.mem_singleton] at hy; subst hy; exact Nat.lt_succ_self _
    · rw [List.map_append]
      refine (List.perm_append_comm).trans ?_
      show ((h, u) :: es.map kvOf).Perm (putK l h u)
      refine List.Perm.trans ?_ (putK_perm hp h u)
      unfold putK
      have := delK_fresh (l := es.map kvOf) (h := h) (fun x hx => by obtain ⟨y, hy, rfl⟩ := List.mem_map.1 hx; exact hnone y hy)
      unfold delK at this
      rw [this]
  | some p =>
    obtain ⟨j, u0⟩ := p
    obtain ⟨_, y, hj, hk, _⟩ := fnd_some hf
    rw [Nat.sub_zero] at hj
    obtain ⟨yk, yv, yb⟩ := y
    simp only at hk
    subst hk
    have e0 : ((((es.map entS).toArray[j]?).map (·.key)).getD (sV yk)) = sV yk := by
      simp [hj, entS]
    simp only [e0, run_staysS, Sem.run_bind, Result.andThen, MapKept.run_setObj_map _ hb]
    obtain ⟨l1, l2, rfl, hl⟩ := split_at hj
    have e1 : Obj.map (((l1 ++ (yk, yv, yb) :: l2).map entS).toArray.modify j fun e => { e with key := sV yk, val := u }) clock = mapSO (l1 ++ (yk, u, yb) :: l2) clock := by
      simp only [mapSO]
      congr 1
      apply Array.ext_getElem?
      intro i
      simp only [Array.getElem?_modify, List.getElem?_toArray, List.getElem?_map]
      by_cases hji : j = i
      · subst hji
        rw [← hl]
        simp [entS]
      · rw [if_neg hji]
        rcases Nat.lt_or_gt_of_ne hji with h1 | h1
        · rw [List.getElem?_append_right (by omega), List.getElem?_append_right (by omega)]
          rw [show i - l1.length = (i - l1.length - 1) + 1 by omega]
          rfl
        · rw [List.getElem?_append_left (by omega), List.getElem?_append_left (by omega)]
    rw [e1]
    have hk2 : ((l1 ++ (yk, u, yb) :: l2).map (·.1)) = ((l1 ++ (yk, yv, yb) :: l2).map (·.1)) := by simp
    refine ⟨_, ⟨l1 ++ (yk, u, yb) :: l2, clock, rfl, ⟨by rw [hk2]; exact hw.keys, ?_, ?_⟩, ?_⟩, fin _⟩
    · have : ((l1 ++ (yk, u, yb) :: l2).map (·.2.2)) = ((l1 ++ (yk, yv, yb) :: l2).map (·.2.2)) := by simp
      rw [this]; exact hw.born
    · intro z hz
      rcases List.mem_append.1 hz with hz | hz
      · exact hw.lt z (List.mem_append_left _ hz)
      · rcases List.mem_cons.1 hz with rfl | hz
        · exact hw.lt (yk, yv, yb) (List.mem_append_right _ (.head _))
        · exact hw.lt z (List.mem_append_right _ (.tail _ hz))
    · refine List.Perm.trans ?_ (putK_perm hp yk u)
      have h1 := del_split (x := (yk, yv, yb)) hw.keys
      unfold delK at h1
      unfold putK
      rw [h1, List.map_append, List.map_cons, List.map_append]
      exact List.perm_middle

/-- 'delete(m, k)'. -/
theorem run_deleteS {b clock : Nat} {es : List Ent} {h : List UInt8} (T : MapSP P t k v) (hb : w.heap[b]? = some (mapSO es clock)) :
    (Builtin.delete_ #[t, n] ty #[.map (some b), sV h]).run P w = .ok (.tuple #[]) { w with heap := w.heap.setIfInBounds b (mapSO (match fnd h es 0 with | some (i, _) => es.eraseIdx i | none => es) clock) } := by
  simp only [mapSO] at hb
  simp only [Builtin.delete_, List.getElem?_toArray, List.getElem?_cons_zero, List.getElem?_cons_succ, Sem.run_bind, run_underlying T.map, Result.andThen, MapKept.run_getObj_map hb, run_checkS T, run_findS T]
  cases hf : fnd h es 0 with
  | none => simp only [Sem.run_bind, MapKept.run_setObj_map _ hb, Result.andThen, Sem.run_pure]; rfl
  | some p =>
    obtain ⟨j, u⟩ := p
    obtain ⟨_, x, hx, _⟩ := fnd_some hf
    have hlt : j < es.length := by
      rcases Nat.lt_or_ge j es.length with h1 | h1
      · exact h1
      · rw [Nat.sub_zero, List.getElem?_eq_none h1] at hx; cases hx
    have e1 : (es.map entS).toArray.eraseIdxIfInBounds j = ((es.eraseIdx j).map entS).toArray := by
      rw [Nat.sub_zero] at hx
      obtain ⟨l1, l2, rfl, rfl⟩ := split_at hx
      apply Array.ext'
      have e2 : (l1 ++ x :: l2).eraseIdx l1.length = l1 ++ l2 := by
        rw [List.eraseIdx_append_of_length_le (Nat.le_refl _)]
        simp
      have e3 : ((l1 ++ x :: l2).map entS).eraseIdx l1.length = (l1 ++ l2).map entS := by
        rw [List.map_append, List.map_cons, List.eraseIdx_append_of_length_le (by simp)]
        simp
      rw [e2, ← e3]
      simp [Array.eraseIdxIfInBounds]
    simp only [Sem.run_bind, MapKept.run_setObj_map _ hb, Result.andThen, Sem.run_pure, e1]
    rfl

theorem eraseIdx_split {l1 l2 : List Ent} {x : Ent} : (l1 ++ x :: l2).eraseIdx l1.length = l1 ++ l2 := by
  rw [List.eraseIdx_append_of_length_le (Nat.le_refl _)]
  simp

theorem WfE.del {l1 l2 : List Ent} {x : Ent} {clock : Nat} (h : WfE (l1 ++ x :: l2) clock) : WfE (l1 ++ l2) clock := by
  have hs : (l1 ++ l2).Sublist (l1 ++ x :: l2) := (List.Sublist.refl l1).append (List.sublist_cons_self x l2)
  exact ⟨h.keys.sublist (hs.map _), h.born.sublist (hs.map _), fun y hy => h.lt y (hs.subset hy)⟩

theorem Ex.deleteS [Strm] {b : Nat} {o : Obj} {l : List KV} {h : List UInt8} {M : Obj → List (Nat × Obj)} (H : SL w (M o)) (T : MapSP P t k v) (hx : e.val x = some (.map (some b))) (hy : e.val y = some (sV h))
    (hu : ∀ o', Upd b o o' (M o) (M o')) (ho : Mp o l) :
    Ex P w e (.call ⟨.builtin .delete, #[x, y], #[t, n]⟩) ty fun _ w' => ∃ o', Mp o' (delK l h) ∧ SL w' (M o') := .of fun ρ hρ _ _ _ _ => by
  obtain ⟨es, clock, rfl, hw, hp⟩ := ho
  have hb := H.1 _ (hu (mapSO es clock)).mem
  have hlt : b < w.heap.size := by
    rcases Nat.lt_or_ge b w.heap.size with h | h
    · exact h
    · rw [Array.getElem?_eq_none h] at hb; cases hb
  have fin : ∀ o', SL { w with heap := w.heap.setIfInBounds b o' } (M o') := fun o' => by
    refine H.upd (hu o') (by simp [hlt]) (fun c hc => ?_) ⟨rfl, rfl, rfl⟩
    simp [Ne.symm hc]
  have hrun := run_deleteS (P := P) (n := n) (ty := ty) (h := h) T hb
  simp only [execOp, resolve, invoke, builtin, Sem.run_bind, Sem.run_pure, Result.andThen, List.map_toArray, List.map_cons, List.map_nil, hρ _ _ hx, hρ _ _ hy, hrun]
  refine ⟨_, ⟨_, clock, rfl, ?_, ?_⟩, fin _⟩
  · cases hf : fnd h es 0 with
    | none => exact hw
    | some p =>
      obtain ⟨j, u⟩ := p
      obtain ⟨_, y, hy, _⟩ := fnd_some hf
      rw [Nat.sub_zero] at hy
      obtain ⟨l1, l2, rfl, rfl⟩ := split_at hy
      simp only [eraseIdx_split]
      exact hw.del
  · refine List.Perm.trans ?_ (hp.filter _)
    cases hf : fnd h es 0 with
    | none =>
      have := delK_fresh (l := es.map kvOf) (h := h) (fun x hx => by obtain ⟨y, hy, rfl⟩ := List.mem_map.1 hx; exact fnd_none hf y hy)
      unfold delK at this
      rw [this]
    | some p =>
      obtain ⟨j, u⟩ := p
      obtain ⟨_, y, hy, hk, _⟩ := fnd_some hf
      rw [Nat.sub_zero] at hy
      obtain ⟨l1, l2, rfl, rfl⟩ := split_at hy
      subst hk
      have := del_split (x := y) hw.keys
      unfold delK at this
      simp only [eraseIdx_split, this]
      exact .refl _

end
end Go.Proofs.YtflfaiakenahlaaGreatDoor.V
end

section
/-
  The engine: a range over a map that is keyed by strings; its copy.
-/
namespace Go.Proofs.YtflfaiakenahlaaGreatDoor.V
open Go.ChangeShapes Go.WideShapes

/-- An iterator over the map m. -/
def iterO (m since : Nat) (seen : List Nat) (last : Nat) : Obj := .mapIter (some m) since seen.toArray last

/-- A range on its way: of the map om (at the block m) 'kept' has been gone over and is still there, 'rest' is to come. -/
def ItM (om oi : Obj) (m : Nat) (kept rest : List KV) : Prop := ∃ es clock seen, om = mapSO es clock ∧ oi = iterO m clock seen clock ∧ WfE es clock ∧
  ((es.filter fun x => decide (x.2.2 ∈ seen)).map kvOf).Perm kept ∧ ((es.filter fun x => decide (x.2.2 ∉ seen)).map kvOf).Perm rest

/-- The same, at the entry x, which is the last of 'kept'. -/
def ItC (om oi : Obj) (m : Nat) (kept rest : List KV) (x : KV) : Prop := ∃ es clock seen born, om = mapSO es clock ∧ oi = iterO m clock (seen ++ [born]) clock ∧ WfE es clock ∧ (x.1, x.2, born) ∈ es ∧ born ∉ seen ∧
  ((es.filter fun y => decide (y.2.2 ∈ seen)).map kvOf).Perm kept ∧ ((es.filter fun y => decide (y.2.2 ∉ seen ++ [born])).map kvOf).Perm rest

theorem filter_split {α : Type} (p : α → Prop) [DecidablePred p] (l : List α) : ((l.filter fun x => decide (p x)) ++ (l.filter fun x => decide (¬ p x))).Perm l := by
  induction l with
  | nil => exact .refl _
  | cons a r ih =>
    by_cases h : p a
    · simp only [List.filter_cons, h, decide_true, if_true, not_true, decide_false, Bool.false_eq_true, if_false, List.cons_append]
      exact ih.cons a
    · simp only [List.filter_cons, h, decide_true, if_true, not_false_eq_true, decide_false, Bool.false_eq_true, if_false]
      exact List.perm_middle.trans (ih.cons a)

theorem ItM.all {om oi : Obj} {m : Nat} {kept rest : List KV} (h : ItM om oi m kept rest) : Mp om (kept ++ rest) := by
  obtain ⟨es, clock, seen, h1, _, h3, h4, h5⟩ := h
  refine ⟨es, clock, h1, h3, ?_⟩
  refine List.Perm.trans ?_ (h4.append h5)
  rw [← List.map_append]
  exact ((filter_split (fun x : Ent => x.2.2 ∈ seen) es).map kvOf).symm

theorem ItM.start {es : List Ent} {clock m : Nat} {l : List KV} (hw : WfE es clock) (hp : (es.map kvOf).Perm l) : ItM (mapSO es clock) (iterO m clock [] clock) m [] l := by
  refine ⟨es, clock, [], rfl, rfl, hw, ?_, ?_⟩
  · simp
  · have : (es.filter fun x => decide (x.2.2 ∉ ([] : List Nat))) = es := by
      rw [List.filter_eq_self]
      intro x _
      simp
    rw [this]
    exact hp

theorem born_one {es : List Ent} (hn : (es.map (·.2.2)).Nodup) {x y : Ent} (hx : x ∈ es) (hy : y ∈ es) (h : x.2.2 = y.2.2) : x = y := by
  induction es with
  | nil => cases hx
  | cons a r ih =>
    rw [List.map_cons, List.nodup_cons] at hn
    rcases List.mem_cons.1 hx with h1 | h1 <;> rcases List.mem_cons.1 hy with h2 | h2
    · rw [h1, h2]
    · exact absurd (by rw [← h1, h]; exact List.mem_map_of_mem (f := fun a : Ent => a.2.2) h2) hn.1
    · exact absurd (by rw [← h2, ← h]; exact List.mem_map_of_mem (f := fun a : Ent => a.2.2) h1) hn.1
    · exact ih hn.2 h1 h2

theorem filter_one_perm {es : List Ent} (hn : (es.map (·.2.2)).Nodup) {x : Ent} (hx : x ∈ es) (p : Ent → Bool) (hp : p x = true) : (es.filter p).Perm (x :: es.filter fun y => p y && decide (y.2.2 ≠ x.2.2)) := by
  induction es with
  | nil => cases hx
  | cons a r ih =>
    have hn0 := hn
    rw [List.map_cons, List.nodup_cons] at hn
    rcases List.mem_cons.1 hx with rfl | hx
    · rw [List.filter_cons, if_pos hp, List.filter_cons]
      simp only [ne_eq, not_true, decide_false, Bool.and_false, Bool.false_eq_true, if_false]
      refine List.Perm.cons _ ?_
      have : (r.filter fun y => p y && decide (¬ y.2.2 = x.2.2)) = r.filter p := by
        apply List.filter_congr
        intro y hy
        have : ¬ y.2.2 = x.2.2 := fun h => hn.1 (by rw [← h]; exact List.mem_map_of_mem (f := fun a : Ent => a.2.2) hy)
        simp [this]
      rw [this]
    · have hax : ¬ a.2.2 = x.2.2 := fun h => hn.1 (by rw [h]; exact List.mem_map_of_mem (f := fun a : Ent => a.2.2) hx)
      rw [List.filter_cons, List.filter_cons]
      have e1 : (p a && decide (a.2.2 ≠ x.2.2)) = p a := by simp [hax]
      rw [e1]
      split
      · exact ((ih hn.2 hx).cons a).trans (.swap x a _)
      · exact ih hn.2 hx

theorem ItC.toM {om oi : Obj} {m : Nat} {kept rest : List KV} {x : KV} (h : ItC om oi m kept rest x) : ItM om oi m (kept ++ [x]) rest := by
  obtain ⟨es, clock, seen, born, h1, h2, h3, h4, h5, h6, h7⟩ := h
  refine ⟨es, clock, seen ++ [born], h1, h2, h3, ?_, h7⟩
  have e1 := (filter_one_perm h3.born h4 (fun y => decide (y.2.2 ∈ seen ++ [born])) (by simp)).map kvOf
  refine e1.trans ?_
  rw [List.map_cons]
  have e2 : (es.filter fun y => decide (y.2.2 ∈ seen ++ [born]) && decide (y.2.2 ≠ born)) = es.filter fun y => decide (y.2.2 ∈ seen) := by
    apply List.filter_congr
    intro y _
    rw [Bool.eq_iff_iff]
    simp only [List.mem_append, List.mem_singleton, ne_eq, Bool.and_eq_true, decide_eq_true_iff]
    constructor
    · rintro ⟨h | h, h2⟩
      · exact h
      · exact absurd h h2
    · intro h
      exact ⟨.inl h, fun h2 => h5 (by rw [← h2]; exact h)⟩
  rw [e2]
  exact (h6.cons x).trans (List.perm_append_comm (l₁ := [x]) (l₂ := kept))

section
variable {P : Program} {w : World} {e : Env} {ty t t2 k v n : TypeId} {x y z : Operand} {L L' : List (Nat × Obj)}

theorem run_equalIn_mapNil {k v : TypeId} {m : Option Nat} (hu : P.underlying t = some (.map k v)) (d : Nat) : (Op.equalIn (d + 1) t (.map m) (.map none)).run P w = .ok m.isNone w := by
  have h1 := run_underlying (w := w) hu
  cases m <;> simp [Op.equalIn, h1]

theorem Ev.mapNilEq {t' k v : TypeId} {m : Option Nat} (hx : e.val x = some (.map m)) (hy : e.val y = some (.map none)) (hu : P.underlying t = some (.map k v)) : Ev P w e (.binOp .eql t x y t') ty (.bool m.isNone) := .of fun ρ hρ _ _ _ _ => by
  have h := run_equal_of (w := w) fun d => run_equalIn_mapNil (m := m) hu d
  simp [execOp, hρ _ _ hx, hρ _ _ hy, eqGuard, binOp, h]

/-- 'x.(T)' without ok, where it holds that type. -/
theorem Ev.assertIs {T : TypeId} {d : TypeDesc} {u : Value} (hx : e.val x = some (.iface T u)) (hu : P.underlying T = some d) (hd : (match d with | .interface _ => false | _ => true) = true) : Ev P w e (.typeAssert x t T false) ty u := .of fun ρ hρ _ _ _ _ => by
  have h1 := run_underlying (w := w) hu
  simp only [execOp, hρ _ _ hx, Instr.typeAssert, Sem.run_bind, h1, Result.andThen]
  cases d <;> first | (simp; done) | simp at hd

theorem Ex.rangeS [Strm] {m : Nat} {o : Obj} {l : List KV} (H : SL w L) (T : MapSP P t k v) (hx : e.val x = some (.map (some m))) (hm : (m, o) ∈ L) (ho : Mp o l) :
    Ex P w e (.range t x) ty fun u w' => ∃ r oi, u = .pointer (some ⟨r, 0, none⟩) ∧ ItM o oi m [] l ∧ SL w' ((r, oi) :: L) := .of fun ρ hρ _ _ _ _ => by
  obtain ⟨es, clock, rfl, hw, hp⟩ := ho
  have hb := H.1 _ hm
  simp only [mapSO] at hb
  simp only [execOp, hρ _ _ hx, Instr.range, Sem.run_bind, run_underlying T.map, Result.andThen, MapKept.run_getObj_map hb, Sem.run_pure, run_newObj]
  exact ⟨w.heap.size, _, rfl, ItM.start hw hp, H.alloc _⟩

/-- What a step yields. -/
def nextV : Option KV → Array Value
  | none => #[.bool false]
  | some a => #[.bool true, sV a.1, a.2]
theorem nextV_0 (o : Option KV) : (nextV o)[0]? = some (.bool o.isSome) := by cases o <;> rfl

/-- One step of a range: what is still to come, whichever. -/
theorem Ex.nextS [Strm] {r m : Nat} {om oi : Obj} {kept rest : List KV} {M : Obj → List (Nat × Obj)} (H : SL w (M oi)) (hx : e.val x = some (.pointer (some ⟨r, 0, none⟩))) (hu : ∀ o', Upd r oi o' (M oi) (M o'))
    (hm : (m, om) ∈ M oi) (hi : ItM om oi m kept rest) :
    Ex P w e (.next x false) ty fun u w' => (rest = [] ∧ u = .tuple (nextV none) ∧ SL w' (M oi)) ∨
      ∃ a rest' oi', rest.Perm (a :: rest') ∧ u = .tuple (nextV (some a)) ∧ ItC om oi' m kept rest' a ∧ SL w' (M oi') := .of fun ρ hρ _ _ _ _ => by
  obtain ⟨es, clock, seen, rfl, rfl, hw, hk, hrest⟩ := hi
  have hb := H.1 _ hm
  have hr := H.1 _ (hu (iterO m clock seen clock)).mem
  simp only [mapSO] at hb
  simp only [iterO] at hr
  have hlt : r < w.heap.size := by
    rcases Nat.lt_or_ge r w.heap.size with h | h
    · exact h
    · rw [Array.getElem?_eq_none h] at hr; cases hr
  have hall : ∀ x ∈ ((es.map entS).toArray).toList, x.born < clock := fun x hx => by
    obtain ⟨a, ha, rfl⟩ := List.mem_map.1 hx
    exact hw.lt a ha
  have hleft : (leftOf (es.map entS).toArray seen.toArray).toList = (es.filter fun x => decide (x.2.2 ∉ seen)).map entS := by
    unfold leftOf
    rw [Array.toList_filter, List.filter_map]
    congr 1
    apply List.filter_congr
    intro a _
    rw [Bool.eq_iff_iff]
    simp [entS]
    exact decide_eq_false_iff_not
  rcases run_next_at (P := P) w ty r m clock clock seen.toArray (es.map entS).toArray clock hr hb hall (Nat.le_refl _) with ⟨h0, hrun⟩ | ⟨x, hxl, w1, hw1, hrun⟩
  · have e1 : (execOp ρ ⟨‹_›, .next x false, ty, ‹_›, ‹_›, ‹_›⟩).run P w = .ok (.value (.tuple #[.bool false])) w := by
      simp only [execOp, hρ _ _ hx, Sem.run_bind, hrun, Result.andThen, Sem.run_pure]
    rw [e1]
    refine .inl ⟨?_, rfl, H⟩
    rw [← Array.length_toList, hleft, List.length_map] at h0
    have := List.eq_nil_of_length_eq_zero h0
    rw [this] at hrest
    exact hrest.symm.eq_nil
  · rw [hleft] at hxl
    obtain ⟨a, ha, rfl⟩ := List.mem_map.1 hxl
    have ha2 := ha
    rw [List.mem_filter] at ha
    obtain ⟨hmem, hns⟩ := ha
    have hns := of_decide_eq_true hns
    have e1 : (execOp ρ ⟨‹_›, .next x false, ty, ‹_›, ‹_›, ‹_›⟩).run P w = .ok (.value (.tuple #[.bool true, sV a.1, a.2.1])) (ChangeMaps.setBlock w1 r (.mapIter (some m) clock (seen.toArray.push a.2.2) clock)) := by
      simp only [execOp, hρ _ _ hx, Sem.run_bind, hrun, Result.andThen, Sem.run_pure]
      rfl
    rw [e1]
    have e2 : Obj.mapIter (some m) clock (seen.toArray.push a.2.2) clock = iterO m clock (seen ++ [a.2.2]) clock := by
      unfold iterO
      congr 1
      apply Array.ext'
      simp
    have e3 := (filter_one_perm hw.born hmem (fun y => decide (y.2.2 ∉ seen)) (decide_eq_true hns)).map kvOf
    have e4 : (es.filter fun y => decide (y.2.2 ∉ seen) && decide (y.2.2 ≠ a.2.2)) = es.filter fun y => decide (y.2.2 ∉ seen ++ [a.2.2]) := by
      apply List.filter_congr
      intro y _
      rw [Bool.eq_iff_iff]
      simp
    rw [e4] at e3
    refine .inr ⟨kvOf a, (es.filter fun y => decide (y.2.2 ∉ seen ++ [a.2.2])).map kvOf, iterO m clock (seen ++ [a.2.2]) clock, hrest.symm.trans e3, rfl, ?_, ?_⟩
    · exact ⟨es, clock, seen, a.2.2, rfl, rfl, hw, hmem, hns, hk, .refl _⟩
    · rw [e2]
      have H1 : SL w1 (M (iterO m clock seen clock)) := by
        rcases hw1 with rfl | rfl
        · exact H
        · exact H.heap rfl ⟨rfl, rfl, rfl⟩
      have hlt1 : r < w1.heap.size := by rcases hw1 with rfl | rfl <;> exact hlt
      refine H1.upd (hu _) (by simp [ChangeMaps.setBlock, hlt1]) (fun c hc => ?_) ⟨rfl, rfl, rfl⟩
      simp [ChangeMaps.setBlock, Ne.symm hc]

theorem Ex.nextSO [Strm] {r m : Nat} {om oi : Obj} {kept rest : List KV} {M : Obj → List (Nat × Obj)} (H : SL w (M oi)) (hx : e.val x = some (.pointer (some ⟨r, 0, none⟩))) (hu : ∀ o', Upd r oi o' (M oi) (M o'))
    (hm : (m, om) ∈ M oi) (hi : ItM om oi m kept rest) :
    Ex P w e (.next x false) ty fun u w' => ∃ o oi', u = .tuple (nextV o) ∧ SL w' (M oi') ∧ (o = none → rest = [] ∧ oi' = oi) ∧ ∀ a, o = some a → ∃ rest', rest.Perm (a :: rest') ∧ ItC om oi' m kept rest' a := by
  refine (Ex.nextS H hx hu hm hi).mono ?_
  rintro u w' (⟨h0, rfl, H⟩ | ⟨a, rest', oi', hp, rfl, hi, H⟩)
  · exact ⟨none, oi, rfl, H, fun _ => ⟨h0, rfl⟩, fun a h => (by cases h)⟩
  · exact ⟨some a, oi', rfl, H, fun h => (by cases h), fun a' h => (by cases h; exact ⟨rest', hp, hi⟩)⟩

/-- The entry of this step. -/
theorem Ev.entryS [Strm] {r m : Nat} {om oi : Obj} {kept rest : List KV} {a : KV} (H : SL w L) (hx : e.val x = some (.pointer (some ⟨r, 0, none⟩))) (hr : (r, oi) ∈ L) (hm : (m, om) ∈ L) (hi : ItC om oi m kept rest a) :
    Ev P w e (.entry x) ty (.tuple #[sV a.1, a.2]) := .of fun ρ hρ _ _ _ _ => by
  obtain ⟨es, clock, seen, born, rfl, rfl, hw, hmem, _, _, _⟩ := hi
  have hb := H.1 _ hm
  have hr := H.1 _ hr
  simp only [mapSO] at hb
  have e2 : iterO m clock (seen ++ [born]) clock = Obj.mapIter (some m) clock (seen.toArray.push (entS (a.1, a.2, born)).born) clock := by
    unfold iterO
    congr 1
    apply Array.ext'
    simp [entS]
  rw [e2] at hr
  have h3 := run_entry_at (P := P) w r m clock seen.toArray (es.map entS).toArray clock (entS (a.1, a.2, born)) hr hb (List.mem_map_of_mem (f := entS) hmem) (by
    have : ((es.map entS).toArray.toList.map (·.born)) = es.map (·.2.2) := by simp [Function.comp_def, entS]
    rw [this]; exact hw.born)
  simp only [execOp, hρ _ _ hx, Sem.run_bind, h3, Result.andThen, Sem.run_pure]
  rfl

/-- 'delete(m, k)' of this step's entry. -/
theorem Ex.deleteC [Strm] {b : Nat} {om oi : Obj} {kept rest : List KV} {a : KV} {M : Obj → List (Nat × Obj)} (H : SL w (M om)) (T : MapSP P t k v) (hx : e.val x = some (.map (some b))) (hy : e.val y = some (sV a.1))
    (hu : ∀ o', Upd b om o' (M om) (M o')) (hi : ItC om oi b kept rest a) :
    Ex P w e (.call ⟨.builtin .delete, #[x, y], #[t, n]⟩) ty fun _ w' => ∃ om', ItM om' oi b kept rest ∧ SL w' (M om') := .of fun ρ hρ _ _ _ _ => by
  obtain ⟨es, clock, seen, born, rfl, rfl, hw, hmem, hns, hk, hrest⟩ := hi
  have hb := H.1 _ (hu (mapSO es clock)).mem
  have hlt : b < w.heap.size := by
    rcases Nat.lt_or_ge b w.heap.size with h | h
    · exact h
    · rw [Array.getElem?_eq_none h] at hb; cases hb
  have fin : ∀ o', SL { w with heap := w.heap.setIfInBounds b o' } (M o') := fun o' => by
    refine H.upd (hu o') (by simp [hlt]) (fun c hc => ?_) ⟨rfl, rfl, rfl⟩
    simp [Ne.symm hc]
  have hrun := run_deleteS (P := P) (n := n) (ty := ty) (h := a.1) T hb
  simp only [execOp, resolve, invoke, builtin, Sem.run_bind, Sem.run_pure, Result.andThen, List.map_toArray, List.map_cons, List.map_nil, hρ _ _ hx, hρ _ _ hy, hrun]
  cases hf : fnd a.1 es 0 with
  | none => exact absurd rfl (fnd_none hf _ hmem)
  | some p =>
    obtain ⟨j, u⟩ := p
    obtain ⟨_, y, hy, hky, _⟩ := fnd_some hf
    rw [Nat.sub_zero] at hy
    have hye : y = (a.1, a.2, born) := by
      have hn := hw.keys
      have hm1 := List.mem_of_getElem? hy
      revert hn hm1 hmem
      clear hf hy hw hk hrest hrun hb fin H hu
      induction es with
      | nil => intro h; cases h
      | cons c r ih =>
        intro h1 h2 h3
        rw [List.map_cons, List.nodup_cons] at h2
        rcases List.mem_cons.1 h1 with g1 | g1 <;> rcases List.mem_cons.1 h3 with g3 | g3
        · rw [g1, g3]
        · exact absurd (by rw [← g1, ← hky]; exact List.mem_map_of_mem (f := fun a : Ent => a.1) g3) h2.1
        · exact absurd (by rw [← g3, hky]; exact List.mem_map_of_mem (f := fun a : Ent => a.1) g1) h2.1
        · exact ih g1 h2.2 g3
    subst hye
    obtain ⟨l1, l2, rfl, rfl⟩ := split_at hy
    simp only [eraseIdx_split]
    have hb1 := hw.born
    rw [List.map_append, List.map_cons, List.nodup_append] at hb1
    have n1 : ∀ y ∈ l1, y.2.2 ≠ born := fun y hy => hb1.2.2 _ (List.mem_map_of_mem (f := fun a : Ent => a.2.2) hy) _ (.head _)
    have n2 : ∀ y ∈ l2, y.2.2 ≠ born := fun y hy h => by
      have h4 := (List.nodup_cons.1 hb1.2.1).1
      simp only at h4
      rw [← h] at h4
      exact h4 (List.mem_map_of_mem (f := fun a : Ent => a.2.2) hy)
    have hne : ∀ y ∈ l1 ++ l2, y.2.2 ≠ born := fun y hy => by
      rcases List.mem_append.1 hy with h | h
      · exact n1 y h
      · exact n2 y h
    refine ⟨_, ⟨l1 ++ l2, clock, seen ++ [born], rfl, rfl, hw.del, ?_, ?_⟩, fin _⟩
    · refine List.Perm.trans ?_ hk
      have e1 : ((l1 ++ (a.1, a.2, born) :: l2).filter fun y => decide (y.2.2 ∈ seen)) = (l1 ++ l2).filter fun y => decide (y.2.2 ∈ seen) := by
        rw [List.filter_append, List.filter_cons, List.filter_append]
        simp [hns]
      rw [e1]
      have e2 : ((l1 ++ l2).filter fun y => decide (y.2.2 ∈ seen ++ [born])) = (l1 ++ l2).filter fun y => decide (y.2.2 ∈ seen) := by
        apply List.filter_congr
        intro y hy
        rw [Bool.eq_iff_iff]
        simp [hne y hy]
      rw [e2]
    · refine List.Perm.trans ?_ hrest
      have e1 : ((l1 ++ (a.1, a.2, born) :: l2).filter fun y => decide (y.2.2 ∉ seen ++ [born])) = (l1 ++ l2).filter fun y => decide (y.2.2 ∉ seen ++ [born]) := by
        rw [List.filter_append, List.filter_cons, List.filter_append]
        simp
      rw [e1]

/-- maps.Clone's own copy. -/
theorem Ex.copyMapS [Strm] {f m : Nat} {o : Obj} {l : List KV} {T : TypeId} {ls : List Operand} {ats : Array TypeId} {fn : Func} (H : SL w L) (hl : e.vals ls = some [.iface T (.map (some m))]) (hm : (m, o) ∈ L) (ho : Mp o l) (hf : P.funcs[f]? = some fn) (hname : (fn.name == "runtime.NumGoroutine") = false)
    (hb : fn.body.isNone = true) (hn : Extern.findNext fn = none) (he : Extern.find fn = some Extern.MapsClone.clone) :
    Ex P w e (.call ⟨.value (.func f), ls.toArray, ats⟩) ty fun u w' => ∃ m2 o2, u = .iface T (.map (some m2)) ∧ Mp o2 l ∧ SL w' ((m2, o2) :: L) := by
  have ho2 := ho
  obtain ⟨es, clock, rfl, hw, hp⟩ := ho
  have hbm := H.1 _ hm
  simp only [mapSO] at hbm
  have h2 : (Extern.MapsClone.clone [Value.iface T (.map (some m))].toArray).run P w = .ok (.iface T (.map (some w.heap.size))) (w.alloc (mapSO es clock)) := by
    show Sem.run P (α := Value) (do
      let .map entries clock ← getObj m | stuck "maps.clone: a map expected"
      pure (Value.iface T (.map (some (← newObj (.map entries clock)))))) w = _
    simp only [Sem.run_bind, MapKept.run_getObj_map hbm, Result.andThen, run_newObj, Sem.run_pure]
    rfl
  refine (Ex.callX hl (v := .iface T (.map (some w.heap.size))) (w' := w.alloc (mapSO es clock)) ?_).mono ?_
  · rw [run_callFunc_extern hf hname hb hn he, h2]
    rfl
  · rintro u w' ⟨rfl, rfl⟩
    exact ⟨_, _, rfl, ho2, H.alloc _⟩

end
end Go.Proofs.YtflfaiakenahlaaGreatDoor.V
end

section
/-
  The engine: numbers: what came in, as what is appended; of one's own, as what is read.
-/
namespace Go.Proofs.YtflfaiakenahlaaGreatDoor.V

/-- What came in, cell by cell, as what is appended. -/
theorem Els.src [Strm] {α : Type} {w : World} {L : List (Nat × Obj)} {R : Value → α → Prop} {g : α → Value} {v : Value} {xs : List α} (H : SL w L) (h : Els L R v xs) (hR : ∀ v x, R v x → v = g x) : Src w 1 v xs.length (xs.flatMap fun x => [g x]) := by
  cases h with
  | nil => exact .nil _
  | empty a c => exact .slice _ _ _ _ (by simp) fun i v hi => by simp at hi
  | blk b off c xs hc hr =>
    refine .slice _ _ _ _ (by rw [flatMap_one]; simp) fun i v hi => ?_
    rw [flatMap_one, List.getElem?_map] at hi
    obtain ⟨x, hx, rfl⟩ := Option.map_eq_some_iff.1 hi
    obtain ⟨u, hu, hR'⟩ := hr i x hx
    rw [hR u x hR'] at hu
    rw [add_none]
    exact Rd.cell H hu

abbrev gI (z : Int) : List Value := [.int .i64 z]

/-- Numbers of one's own, as what is read. -/
theorem Slc.ints {L B : List (Nat × Obj)} {T : TypeId} {v : Value} {zs : List Int} (h : Slc gI 1 T v zs B) (hw : ∀ z ∈ zs, (Lit.int .i64 z).wf = true) : IntsIn .i64 (B ++ L) v zs := by
  cases h with
  | nil => exact .nil
  | blk b xs cap spare fr h1 h2 h3 =>
    refine .blk b 0 cap zs h2 fun i x hi => ⟨.int .i64 x, ?_, rfl, hw x (List.mem_of_getElem? hi)⟩
    rw [Nat.zero_add]
    refine Rd.mk (.head _) ?_
    have hlt : i < zs.length := by
      rcases Nat.lt_or_ge i zs.length with h | h
      · exact h
      · rw [List.getElem?_eq_none h] at hi; cases hi
    rw [List.getElem?_toArray, flatMap_one, List.getElem?_append_left (by simpa using hlt), List.getElem?_map, hi]
    rfl

theorem IntsIn.wf {k : IntKind} {L : List (Nat × Obj)} {v : Value} {zs : List Int} (h : IntsIn k L v zs) : ∀ z ∈ zs, (Lit.int k z).wf = true := by
  intro z hz
  obtain ⟨i, hi⟩ := List.getElem?_of_mem hz
  cases h with
  | nil => simp at hi
  | empty a c => simp at hi
  | blk b off c xs hc hr => obtain ⟨_, _, _, hw⟩ := hr i z hi; exact hw

/-- A slice of one's own, element by element. -/
theorem Slc.els {α : Type} {g : α → Value} {L B : List (Nat × Obj)} {T : TypeId} {v : Value} {xs : List α} (h : Slc (fun x => [g x]) 1 T v xs B) : Els (B ++ L) (fun u x => u = g x) v xs := by
  cases h with
  | nil => exact .nil
  | blk b xs cap spare fr h1 h2 h3 =>
    refine .blk b 0 cap xs h2 fun i x hi => ⟨g x, ?_, rfl⟩
    rw [Nat.zero_add]
    refine Rd.mk (.head _) ?_
    have hlt : i < xs.length := by
      rcases Nat.lt_or_ge i xs.length with h | h
      · exact h
      · rw [List.getElem?_eq_none h] at hi; cases hi
    rw [List.getElem?_toArray, flatMap_one, List.getElem?_append_left (by simpa using hlt), List.getElem?_map, hi]
    rfl

theorem map_getD {α β : Type} {l : List α} {f : α → β} {i : Nat} {d : α} (h : i < l.length) : (l.map f)[i]? = some (f (l.getD i d)) := by
  simp [List.getD_eq_getElem?_getD, h]

end Go.Proofs.YtflfaiakenahlaaGreatDoor.V
end

section
/-
  The sort by what lies in memory; strings in a row.
-/
namespace Go.Proofs.YtflfaiakenahlaaGreatDoor.V
open Go.Sort

abbrev gT (x : List UInt8) : List Value := [sV x]

theorem SL.grow [Strm] {w : World} {L : List (Nat × Obj)} (h : SL w L) (os : Array Obj) : SL (grow w os) L := by
  refine ⟨fun p hp => ?_, h.2.1, h.2.2⟩
  have h1 := h.1 p hp
  have hlt := h.lt hp
  show (w.heap ++ os)[p.1]? = _
  rw [Array.getElem?_append_left hlt]
  exact h1

/-- A row that is written over. -/
theorem SL.putRow [Strm] {α : Type} [Inhabited α] {w : World} {F : List (Nat × Obj)} {b n : Nat} {cs : Array Value} {T : TypeId} {fr : Nat × Nat} {enc : α → Value} {d : Array α} (h : SL w ((b, .cells cs T fr) :: F)) :
    SL (putRow enc (Sort.ahead w n) b 0 d) ((b, .cells (putCells enc 0 d cs) T fr) :: F) := by
  have hb := h.1 _ (.head _)
  simp only at hb
  refine h.upd u0 ?_ (fun c hc => ?_) ⟨rfl, rfl, rfl⟩
  · show (w.heap.modify b (onCells (putCells enc 0 d)))[b]? = _
    rw [Array.getElem?_modify, if_pos rfl, hb]
    rfl
  · show (w.heap.modify b (onCells (putCells enc 0 d)))[c]? = _
    rw [Array.getElem?_modify, if_neg (Ne.symm hc)]

theorem putCells_map {α : Type} [Inhabited α] {f : α → Value} {xs ys : List α} {sp : List Value} (h : ys.length = xs.length) : putCells f 0 ys.toArray (xs.map f ++ sp).toArray = (ys.map f ++ sp).toArray := by
  apply Array.ext_getElem?
  intro i
  simp only [putCells, Array.getElem?_mapIdx, List.getElem?_toArray, Nat.zero_add, Nat.zero_le, true_and, List.size_toArray, Nat.sub_zero]
  by_cases hi : i < ys.length
  · rw [List.getElem?_append_left (by simp; omega), List.getElem?_append_left (by simp; omega), List.getElem?_map, List.getElem?_map, List.getElem?_eq_getElem (by omega), List.getElem?_eq_getElem hi]
    simp [hi]
  · rw [List.getElem?_append_right (by simp; omega), List.getElem?_append_right (by simp; omega), List.length_map, List.length_map, h]
    cases hs : sp[i - xs.length]? with
    | none => rfl
    | some u => simp [hi]; omega

theorem holds_of [Strm] {α : Type} [Inhabited α] {w : World} {F : List (Nat × Obj)} {b cap : Nat} {f : α → Value} {xs : List α} {sp : List Value} {T : TypeId} {fr : Nat × Nat} (h : SL w ((b, .cells (xs.map f ++ sp).toArray T fr) :: F)) (ht : Thaw fr 0 cap) (hc : xs.length ≤ cap) :
    Holds f w b 0 xs.toArray := fun j hj => by
  have hb := h.1 _ (.head _)
  simp only at hb
  have hj : j < xs.length := by simpa using hj
  constructor
  · refine (Rd.cell h (Rd.mk (.head _) ?_))
    rw [Nat.zero_add, List.getElem?_toArray, List.getElem?_append_left (by simpa using hj), List.getElem?_map, List.getElem?_eq_getElem hj]
    simp [hj]
  · have := ht.not j (Nat.zero_le _) (by omega)
    unfold World.frozen?
    simp only [hb]
    rw [Nat.zero_add]
    rw [Bool.eq_false_iff]
    intro hh
    simp only [Bool.and_eq_true, decide_eq_true_eq] at hh
    exact this hh

/-- Sorted strings: of those that are given, in the order of strings. -/
def srtS (ss : List (List UInt8)) : List (List UInt8) := ss.mergeSort fun x y => decide (x ≤ y)
def srtN (zs : List Int) : List Int := zs.mergeSort fun x y => decide (x ≤ y)

end Go.Proofs.YtflfaiakenahlaaGreatDoor.V
namespace Go.Proofs.YtflfaiakenahlaaGreatDoor
open Go.Proofs.YtflfaiakenahlaaGreatDoor.V
open Go.Sort

theorem sortS_spec [Strm] (v : Value) (ss : List (List UInt8)) (B : List (Nat × Obj)) (hl : ss.length ≤ 1000000) (w : World) (F : List (Nat × Obj)) (hs : Slc gT 1 9 v ss B) (H : SL w (B ++ F)) :
    Does Tryz.prog 81 #[v] w fun r w' => r = .tuple #[] ∧ ∃ B', Slc gT 1 9 v (srtS ss) B' ∧ SL w' (B' ++ F) := by
  cases hs with
  | nil =>
    refine .of ((srt_string_none none 0 w).mono ?_)
    rintro e w' ⟨rfl, rfl⟩
    exact ⟨_, rfl, rfl, [], by rw [show srtS [] = [] by simp [srtS]]; exact .nil, H⟩
  | blk b xs cap sp fr hc hle ht =>
    rw [Nat.mul_one] at ht
    rw [List.singleton_append, flatMap_one] at H
    have hlen : (srtS ss).length = ss.length := by simp [srtS]
    refine .of ((srt_string b 0 cap ss w (holds_of H ht hle) (H.lt (.head _)) (by omega)).mono ?_)
    rintro e w' ⟨rfl, n, os, rfl⟩
    refine ⟨_, rfl, rfl, [(b, .cells ((srtS ss).flatMap gT ++ sp).toArray 9 fr)], ?_, ?_⟩
    · have := Slc.blk (g := gT) (sz := 1) (T := 9) b (srtS ss) cap sp fr (by rw [hlen]; exact hc) (by omega) (by rw [Nat.mul_one]; exact ht)
      rw [hlen] at this
      exact this
    · rw [List.singleton_append, flatMap_one]
      have h1 := (H.putRow (enc := encStr) (n := n) (d := (srtS ss).toArray)).grow os
      rw [putCells_map hlen] at h1
      exact h1

theorem sortN_spec [Strm] (v : Value) (zs : List Int) (B : List (Nat × Obj)) (hl : zs.length ≤ 1000000) (w : World) (F : List (Nat × Obj)) (hs : Slc gI 1 3 v zs B) (H : SL w (B ++ F)) :
    Does Tryz.prog 103 #[v] w fun r w' => r = .tuple #[] ∧ ∃ B', Slc gI 1 3 v (srtN zs) B' ∧ SL w' (B' ++ F) := by
  cases hs with
  | nil =>
    refine .of ((srt_int_none none 0 w).mono ?_)
    rintro e w' ⟨rfl, rfl⟩
    exact ⟨_, rfl, rfl, [], by rw [show srtN [] = [] by simp [srtN]]; exact .nil, H⟩
  | blk b xs cap sp fr hc hle ht =>
    rw [Nat.mul_one] at ht
    rw [List.singleton_append, flatMap_one] at H
    have hlen : (srtN zs).length = zs.length := by simp [srtN]
    refine .of ((srt_int b 0 cap zs w (holds_of H ht hle) (H.lt (.head _)) (by omega)).mono ?_)
    rintro e w' ⟨rfl, n, os, rfl⟩
    refine ⟨_, rfl, rfl, [(b, .cells ((srtN zs).flatMap gI ++ sp).toArray 3 fr)], ?_, ?_⟩
    · have := Slc.blk (g := gI) (sz := 1) (T := 3) b (srtN zs) cap sp fr (by rw [hlen]; exact hc) (by omega) (by rw [Nat.mul_one]; exact ht)
      rw [hlen] at this
      exact this
    · rw [List.singleton_append, flatMap_one]
      have h1 := (H.putRow (enc := Value.int .i64) (n := n) (d := (srtN zs).toArray)).grow os
      rw [putCells_map hlen] at h1
      exact h1

end Go.Proofs.YtflfaiakenahlaaGreatDoor
end

section
/-
  What layer 1 lays and takes off, in plain words. No program here.
-/
namespace Go.Proofs.YtflfaiakenahlaaGreatDoor.V

/-- A number below 256, laid. -/
def encU (n : Nat) : List UInt8 := if n = 0 then [0] else [1, UInt8.ofNat n]
def encC (c : UInt8) : List UInt8 := if c = 0 then [0, 255] else [c]
/-- Bytes, laid. -/
def encB (bs : List UInt8) : List UInt8 := bs.flatMap encC ++ [0, 0]
/-- A leaf's bytes. -/
def pageM (k v : List UInt8) : List UInt8 := encB k ++ encB v

theorem encC_len (c : UInt8) : 1 ≤ (encC c).length ∧ (encC c).length ≤ 2 := by unfold encC; split <;> simp
theorem encB_len (bs : List UInt8) : bs.length + 2 ≤ (encB bs).length ∧ (encB bs).length ≤ 2 * bs.length + 2 := by
  unfold encB
  rw [List.length_append]
  induction bs with
  | nil => simp
  | cons c r ih =>
    have := encC_len c
    rw [List.flatMap_cons, List.length_append, List.length_cons]
    simp only [List.length_cons, List.length_nil] at ih ⊢
    omega
theorem encU_len (n : Nat) : 1 ≤ (encU n).length ∧ (encU n).length ≤ 2 := by unfold encU; split <;> simp

/-! ### A reader: what is left, the first error -/

abbrev RdM := List UInt8 × Nat
def be (bs : List UInt8) : Nat := bs.foldl (fun n c => 256 * n + c.toNat) 0

theorem be_snoc (bs : List UInt8) (c : UInt8) : be (bs ++ [c]) = 256 * be bs + c.toNat := by simp [be]
theorem be_lt_from : ∀ (bs : List UInt8) (n : Nat), bs.foldl (fun n c => 256 * n + c.toNat) n + 1 ≤ (n + 1) * 256 ^ bs.length
  | [], n => by simp
  | c :: r, n => by
    have h := be_lt_from r (256 * n + c.toNat)
    have hc := c.toNat_lt
    rw [List.foldl_cons, List.length_cons, Nat.pow_succ]
    refine Nat.le_trans h ?_
    rw [Nat.mul_comm (256 ^ r.length) 256, ← Nat.mul_assoc]
    exact Nat.mul_le_mul_right _ (by omega)
theorem be_lt (bs : List UInt8) : be bs < 256 ^ bs.length := by
  have := be_lt_from bs 0
  unfold be
  omega

/-- A number at the head: its error, the number, how many bytes it takes. -/
def numM : List UInt8 → Nat → Nat × Nat × Nat
  | [], _ => (12, 0, 0)
  | c :: r, most =>
    if 8 < c.toNat then (3, 0, 0)
    else if r.length < c.toNat then (12, 0, 0)
    else if 0 < c.toNat ∧ r.head? = some 0 then (3, 0, 0)
    else if most < be (r.take c.toNat) then (4, 0, 0)
    else (0, be (r.take c.toNat), 1 + c.toNat)

def uintM (most : Nat) (R : RdM) : RdM × Nat :=
  if R.2 ≠ 0 then (R, 0) else if (numM R.1 most).1 ≠ 0 then ((R.1, (numM R.1 most).1), 0) else ((R.1.drop (numM R.1 most).2.2, 0), (numM R.1 most).2.1)

def countM (most : Nat) (R : RdM) : RdM × Nat :=
  if R.2 ≠ 0 then (R, 0) else if (numM R.1 most).1 ≠ 0 then ((R.1, (numM R.1 most).1), 0)
  else if R.1.length - (numM R.1 most).2.2 < (numM R.1 most).2.1 then ((R.1, 2), 0) else ((R.1.drop (numM R.1 most).2.2, 0), (numM R.1 most).2.1)

/-- Bytes at the head: the error, the bytes, what is left. -/
def scanM (most : Nat) : List UInt8 → List UInt8 → Nat × List UInt8 × List UInt8
  | _, [] => (12, [], [])
  | out, c :: r =>
    if c = 0 then
      match r with
      | [] => (12, [], [])
      | d :: r' => if d = 0 then (0, out, r') else if d ≠ 255 then (3, [], []) else if out.length = most then (2, [], []) else scanM most (out ++ [0]) r'
    else if out.length = most then (2, [], []) else scanM most (out ++ [c]) r

def bytesM (most : Nat) (R : RdM) : RdM × List UInt8 :=
  if R.2 ≠ 0 then (R, []) else if (scanM most [] R.1).1 ≠ 0 then ((R.1, (scanM most [] R.1).1), []) else (((scanM most [] R.1).2.2, 0), (scanM most [] R.1).2.1)

def doneM (R : RdM) : Nat := if R.2 ≠ 0 then R.2 else if R.1 = [] then 0 else 3

/-! ### What a number's take leaves -/

theorem numM_3 {c : UInt8} {r : List UInt8} {most : Nat} (h1 : 8 < c.toNat) : numM (c :: r) most = (3, 0, 0) := if_pos h1
theorem numM_12 {c : UInt8} {r : List UInt8} {most : Nat} (h1 : ¬ 8 < c.toNat) (h2 : r.length < c.toNat) : numM (c :: r) most = (12, 0, 0) := (if_neg h1).trans (if_pos h2)
theorem numM_f {c : UInt8} {r : List UInt8} {most : Nat} (h1 : ¬ 8 < c.toNat) (h2 : ¬ r.length < c.toNat) (h3 : 0 < c.toNat ∧ r.head? = some 0) : numM (c :: r) most = (3, 0, 0) := (if_neg h1).trans ((if_neg h2).trans (if_pos h3))
theorem numM_4 {c : UInt8} {r : List UInt8} {most : Nat} (h1 : ¬ 8 < c.toNat) (h2 : ¬ r.length < c.toNat) (h3 : ¬ (0 < c.toNat ∧ r.head? = some 0)) (h4 : most < be (r.take c.toNat)) : numM (c :: r) most = (4, 0, 0) :=
  (if_neg h1).trans ((if_neg h2).trans ((if_neg h3).trans (if_pos h4)))
theorem numM_0 {c : UInt8} {r : List UInt8} {most : Nat} (h1 : ¬ 8 < c.toNat) (h2 : ¬ r.length < c.toNat) (h3 : ¬ (0 < c.toNat ∧ r.head? = some 0)) (h4 : ¬ most < be (r.take c.toNat)) :
    numM (c :: r) most = (0, be (r.take c.toNat), 1 + c.toNat) := (if_neg h1).trans ((if_neg h2).trans ((if_neg h3).trans (if_neg h4)))

theorem numM_ok {B : List UInt8} {most : Nat} (h : (numM B most).1 = 0) : (numM B most).2.2 ≤ B.length ∧ (numM B most).2.1 ≤ most := by
  cases B with
  | nil => cases h
  | cons c r =>
    by_cases h1 : 8 < c.toNat
    · rw [numM_3 h1] at h; cases h
    by_cases h2 : r.length < c.toNat
    · rw [numM_12 h1 h2] at h; cases h
    by_cases h3 : 0 < c.toNat ∧ r.head? = some 0
    · rw [numM_f h1 h2 h3] at h; cases h
    by_cases h4 : most < be (r.take c.toNat)
    · rw [numM_4 h1 h2 h3 h4] at h; cases h
    · rw [numM_0 h1 h2 h3 h4]
      simp only [List.length_cons]
      omega

theorem scanM_ok {most : Nat} : ∀ {B out : List UInt8}, (scanM most out B).1 = 0 → ∃ k, k ≤ B.length ∧ (scanM most out B).2.2 = B.drop k
  | [], _, h => by unfold scanM at h; cases h
  | c :: r, out, h => by
    unfold scanM at h ⊢
    split at h
    · rename_i hc
      rw [if_pos hc]
      cases r with
      | nil => cases h
      | cons d r' =>
        simp only at h ⊢
        split at h
        · rename_i hd
          rw [if_pos hd]
          exact ⟨2, by simp, by simp⟩
        · split at h
          · cases h
          · split at h
            · cases h
            · rename_i h1 h2 h3
              rw [if_neg h1, if_neg h2, if_neg h3]
              obtain ⟨k, hk, he⟩ := scanM_ok h
              exact ⟨k + 2, by simp only [List.length_cons]; omega, by rw [he]; simp⟩
    · rename_i hc
      rw [if_neg hc]
      split at h
      · cases h
      · rename_i h3
        rw [if_neg h3]
        obtain ⟨k, hk, he⟩ := scanM_ok h
        exact ⟨k + 1, by simp only [List.length_cons]; omega, by rw [he]; simp⟩

/-! ### What is laid is taken off -/

theorem numM_encU {n most : Nat} (hn : n < 256) (hm : n ≤ most) (rest : List UInt8) : numM (encU n ++ rest) most = (0, n, (encU n).length) := by
  unfold encU
  by_cases h0 : n = 0
  · subst h0
    simp [numM, be]
  · rw [if_neg h0]
    have h1 : (UInt8.ofNat n).toNat = n := by rw [UInt8.toNat_ofNat']; omega
    have h2 : UInt8.ofNat n ≠ 0 := fun h => by
      have := congrArg UInt8.toNat h
      rw [h1] at this
      exact h0 this
    simp [numM, be, h1, h2]
    omega

theorem scanM_encC {most : Nat} (c : UInt8) (out rest : List UInt8) (h : out.length < most) : scanM most out (encC c ++ rest) = scanM most (out ++ [c]) rest := by
  unfold encC
  split
  · rename_i hc
    subst hc
    rw [List.cons_append, List.cons_append, List.nil_append]
    conv => lhs; unfold scanM
    simp only [if_true]
    rw [if_neg (by decide), if_neg (by decide), if_neg (by omega)]
  · rename_i hc
    rw [List.cons_append, List.nil_append]
    conv => lhs; unfold scanM
    rw [if_neg hc, if_neg (by omega)]

theorem scanM_encB {most : Nat} : ∀ (x out rest : List UInt8), out.length + x.length ≤ most → scanM most out (encB x ++ rest) = (0, out ++ x, rest)
  | [], out, rest, _ => by
    show scanM most out (0 :: 0 :: rest) = _
    unfold scanM
    simp
  | c :: x, out, rest, h => by
    rw [List.length_cons] at h
    have e1 : encB (c :: x) ++ rest = encC c ++ (encB x ++ rest) := by simp [encB, List.flatMap_cons]
    rw [e1, scanM_encC c out _ (by omega), scanM_encB x (out ++ [c]) rest (by simp; omega)]
    simp

theorem bytesM_encB {most : Nat} (x rest : List UInt8) (h : x.length ≤ most) : bytesM most (encB x ++ rest, 0) = ((rest, 0), x) := by
  unfold bytesM
  simp only [ne_eq, not_true, if_false]
  rw [scanM_encB x [] rest (by simpa using h)]
  simp

theorem uintM_encU {n most : Nat} (hn : n < 256) (hm : n ≤ most) (rest : List UInt8) : uintM most (encU n ++ rest, 0) = ((rest, 0), n) := by
  unfold uintM
  simp only [ne_eq, not_true, if_false]
  rw [numM_encU hn hm]
  simp

theorem countM_encU {n most : Nat} (hn : n < 256) (hm : n ≤ most) (rest : List UInt8) (hr : n ≤ rest.length) : countM most (encU n ++ rest, 0) = ((rest, 0), n) := by
  unfold countM
  simp only [ne_eq, not_true, if_false]
  rw [numM_encU hn hm]
  simp only [not_true, if_false, List.length_append]
  rw [if_neg (by omega)]
  simp

theorem uintM_le (most : Nat) (R : RdM) : (uintM most R).2 ≤ most := by
  unfold uintM
  split
  · exact Nat.zero_le _
  · split
    · exact Nat.zero_le _
    · rename_i h
      exact (numM_ok (by simpa using h)).2

theorem countM_le (most : Nat) (R : RdM) : (countM most R).2 ≤ most := by
  unfold countM
  split
  · exact Nat.zero_le _
  · split
    · exact Nat.zero_le _
    · split
      · exact Nat.zero_le _
      · rename_i h _
        exact (numM_ok (by simpa using h)).2

/-- Where a reader of 'line' stands behind a take: still within. -/
def Within (line : List UInt8) (B : List UInt8) : Prop := ∃ k, k ≤ line.length ∧ B = line.drop k
theorem Within.drop {line B : List UInt8} (h : Within line B) {k : Nat} (hk : k ≤ B.length) : Within line (B.drop k) := by
  obtain ⟨j, hj, rfl⟩ := h
  rw [List.length_drop] at hk
  exact ⟨j + k, by omega, by rw [List.drop_drop]⟩

end Go.Proofs.YtflfaiakenahlaaGreatDoor.V
end

section
/-
  Layer 1's writer, walked.
-/
namespace Go.Proofs.YtflfaiakenahlaaGreatDoor.V

/-- A byte that is read at an index. -/
theorem Inp.atI {L : List (Nat × Obj)} {a : Option Addr} {n c i : Nat} {bs : List UInt8} (h : Inp L (.slice a n c) bs) (hi : i < bs.length) : ∃ b off, a = some ⟨b, off, none⟩ ∧ Rd L ⟨b, off + i, none⟩ (BV (bs.getD i 0)) := by
  cases h with
  | nil => simp at hi
  | empty a c => simp at hi
  | blk b off c bs _ hr => exact ⟨b, off, rfl, hr i hi⟩

theorem take_succD {α : Type} {l : List α} {i : Nat} {d : α} (h : i < l.length) : l.take (i + 1) = l.take i ++ [l.getD i d] := by
  rw [List.take_add_one]
  simp [List.getD_eq_getElem?_getD, h]

def lenTab : Array UInt8 := #[0,1,2,2,3,3,3,3,4,4,4,4,4,4,4,4,5,5,5,5,5,5,5,5,5,5,5,5,5,5,5,5,6,6,6,6,6,6,6,6,6,6,6,6,6,6,6,6,6,6,6,6,6,6,6,6,6,6,6,6,6,6,6,6,7,7,7,7,7,7,7,7,7,7,7,7,7,7,7,7,7,7,7,7,7,7,7,7,7,7,7,7,7,7,7,7,7,7,7,7,7,7,7,7,7,7,7,7,7,7,7,7,7,7,7,7,7,7,7,7,7,7,7,7,7,7,7,7,8,8,8,8,8,8,8,8,8,8,8,8,8,8,8,8,8,8,8,8,8,8,8,8,8,8,8,8,8,8,8,8,8,8,8,8,8,8,8,8,8,8,8,8,8,8,8,8,8,8,8,8,8,8,8,8,8,8,8,8,8,8,8,8,8,8,8,8,8,8,8,8,8,8,8,8,8,8,8,8,8,8,8,8,8,8,8,8,8,8,8,8,8,8,8,8,8,8,8,8,8,8,8,8,8,8,8,8,8,8,8,8,8,8,8,8,8,8,8,8,8,8,8,8,8,8,8,8]
theorem lenTab_at : ∀ n : Fin 256, ((lenTab[n.1]?).elim false fun c => if n.1 = 0 then c.toNat == 0 else 1 ≤ c.toNat && c.toNat ≤ 8) = true := by decide +kernel
theorem lenTab_spec {n : Nat} (h : n < 256) : ∃ c : UInt8, lenTab[n]? = some c ∧ (n = 0 → c.toNat = 0) ∧ (n ≠ 0 → 1 ≤ c.toNat ∧ c.toNat ≤ 8) := by
  have := lenTab_at ⟨n, h⟩
  simp only at this
  cases hc : lenTab[n]? with
  | none => rw [hc] at this; cases this
  | some c =>
    rw [hc] at this
    simp only [Option.elim] at this
    refine ⟨c, rfl, fun h0 => ?_, fun h0 => ?_⟩
    · rw [if_pos h0] at this; simpa using this
    · rw [if_neg h0] at this; simpa using this

theorem xor0 (n : Nat) (h : n < 256) : IntKind.u8.wrap ((BitVec.ofInt IntKind.u8.bits ((n : Nat) : Int) ^^^ BitVec.ofInt IntKind.u8.bits 0).toNat) = ((UInt8.ofNat n).toNat : Int) := by
  have : ∀ n : Fin 256, IntKind.u8.wrap ((BitVec.ofInt IntKind.u8.bits (n.val : Int) ^^^ BitVec.ofInt IntKind.u8.bits 0).toNat) = ((UInt8.ofNat n.val).toNat : Int) := by decide +kernel
  exact this ⟨n, h⟩

end Go.Proofs.YtflfaiakenahlaaGreatDoor.V
namespace Go.Proofs.YtflfaiakenahlaaGreatDoor
open Go.Proofs.YtflfaiakenahlaaGreatDoor.V

theorem len64_spec [Strm] (n : Nat) (hn : n < 256) (w : World) (F : List (Nat × Obj)) (H : SL w F) :
    Does Tryz.prog 115 #[.int .u64 (n : Int)] w fun r w' => (∃ m : Nat, r = .int .i64 (m : Int) ∧ (n = 0 → m = 0) ∧ (n ≠ 0 → 1 ≤ m ∧ m ≤ 8)) ∧ SL w' F := by
  obtain ⟨c, hc, h1, h2⟩ := lenTab_spec hn
  have hb := c.toNat_lt
  refine Does.intro (args := [_]) (e := [(0, _)]) Tryz.func115 rfl Tryz.ntmps115 rfl rfl ?_
  repeat (first | refine .seq ?_ | refine .skip ?_ | refine .block ?_ | refine .inBlock ?_ | refine .yes rfl ?_ | refine .no rfl ?_ | refine .exit rfl ?_)
  repeat (first | refine .seq ?_ | refine .skip ?_ | refine .block ?_ | refine .inBlock ?_ | refine .yes rfl ?_ | refine .no rfl ?_ | refine .exit rfl ?_)
  refine RunsE.region ?_
  refine OpsE.ev (Ev.assign rfl) rfl ?_
  refine OpsE.nil ?_
  repeat (first | refine .seq ?_ | refine .skip ?_ | refine .block ?_ | refine .inBlock ?_ | refine .yes rfl ?_ | refine .no rfl ?_ | refine .exit rfl ?_)
  refine RunsE.region ?_
  refine OpsE.ev (Ev.move rfl) rfl ?_
  refine OpsE.ev (Ev.geq (r := false) rfl rfl (decide_eq_false (by omega))) rfl ?_
  refine OpsE.nil ?_
  repeat (first | refine .seq ?_ | refine .skip ?_ | refine .block ?_ | refine .inBlock ?_ | refine .yes rfl ?_ | refine .no rfl ?_ | refine .exit rfl ?_)
  refine RunsE.region ?_
  refine OpsE.ev (Ev.move rfl) rfl ?_
  refine OpsE.ev (Ev.geq (r := false) rfl rfl (decide_eq_false (by omega))) rfl ?_
  refine OpsE.nil ?_
  repeat (first | refine .seq ?_ | refine .skip ?_ | refine .block ?_ | refine .inBlock ?_ | refine .yes rfl ?_ | refine .no rfl ?_ | refine .exit rfl ?_)
  refine RunsE.region ?_
  refine OpsE.ev (Ev.move rfl) rfl ?_
  refine OpsE.ev (Ev.geq (r := false) rfl rfl (decide_eq_false (by omega))) rfl ?_
  refine OpsE.nil ?_
  repeat (first | refine .seq ?_ | refine .skip ?_ | refine .block ?_ | refine .inBlock ?_ | refine .yes rfl ?_ | refine .no rfl ?_ | refine .exit rfl ?_)
  refine RunsE.region ?_
  refine OpsE.ev (Ev.move rfl) rfl ?_
  refine OpsE.ev (Ev.move rfl) rfl ?_
  refine OpsE.ev (Ev.conv (c := (n : Int)) (k' := .u8) rfl (by kernel_rfl) (by kernel_rfl) (qu8 (by omega) (by omega))) rfl ?_
  refine OpsE.ev (Ev.ixStr (m := n) (c := c) rfl rfl rfl (by kernel_rfl) hc) rfl ?_
  refine OpsE.ev (Ev.conv (c := (c.toNat : Int)) (k' := .i64) rfl (by kernel_rfl) (by kernel_rfl) (qi64 (by omega) (by omega))) rfl ?_
  refine OpsE.ev (Ev.add (c := (c.toNat : Int)) rfl rfl (by rw [qi64 (by omega) (by omega)]; omega)) rfl ?_
  refine OpsE.ev (Ev.assign rfl) rfl ?_
  refine OpsE.nil ?_
  repeat (first | refine .seq ?_ | refine .skip ?_ | refine .block ?_ | refine .inBlock ?_ | refine .yes rfl ?_ | refine .no rfl ?_ | refine .exit rfl ?_)
  exact RunsE.ret1 Tryz.func115 rfl rfl ⟨⟨c.toNat, rfl, h1, h2⟩, H⟩

theorem width_spec [Strm] (n : Nat) (hn : n < 256) (w : World) (F : List (Nat × Obj)) (H : SL w F) :
    Does Tryz.prog 118 #[.int .u64 (n : Int)] w fun r w' => r = .int .i64 (if n = 0 then 0 else 1) ∧ SL w' F := by
  refine Does.intro (args := [_]) (e := [(0, _)]) Tryz.func118 rfl Tryz.ntmps118 rfl rfl ?_
  repeat (first | refine .seq ?_ | refine .skip ?_ | refine .block ?_ | refine .inBlock ?_ | refine .yes rfl ?_ | refine .no rfl ?_ | refine .exit rfl ?_)
  repeat (first | refine .seq ?_ | refine .skip ?_ | refine .block ?_ | refine .inBlock ?_ | refine .yes rfl ?_ | refine .no rfl ?_ | refine .exit rfl ?_)
  refine RunsE.region ?_
  refine OpsE.ev (Ev.assign rfl) rfl ?_
  refine OpsE.nil ?_
  repeat (first | refine .seq ?_ | refine .skip ?_ | refine .block ?_ | refine .inBlock ?_ | refine .yes rfl ?_ | refine .no rfl ?_ | refine .exit rfl ?_)
  refine RunsE.region ?_
  refine OpsE.ev (Ev.move rfl) rfl ?_
  refine OpsE.ex (Ex.call rfl Tryz.call115 (len64_spec n hn w _ H)) rfl ?_; (try clear H); rintro _ w ⟨⟨m, rfl, h1, h2⟩, H⟩; have hm : m ≤ 8 := (by by_cases h0 : n = 0; exact (by rw [h1 h0]; omega); exact (h2 h0).2)
  refine OpsE.ev (Ev.add (c := ((m + 7 : Nat) : Int)) rfl rfl (by rw [qi64 (by omega) (by omega)]; omega)) rfl ?_
  refine OpsE.ev (Ev.quo (c := (((m + 7) / 8 : Nat) : Int)) rfl rfl (by omega) (by rw [show ((m + 7 : Nat) : Int).tdiv 8 = (((m + 7) / 8 : Nat) : Int) from qquo _ 8]; exact qi64 (by omega) (by omega))) rfl ?_
  refine OpsE.ev (Ev.assign rfl) rfl ?_
  refine OpsE.nil ?_
  repeat (first | refine .seq ?_ | refine .skip ?_ | refine .block ?_ | refine .inBlock ?_ | refine .yes rfl ?_ | refine .no rfl ?_ | refine .exit rfl ?_)
  refine RunsE.ret1 Tryz.func118 rfl rfl ⟨?_, H⟩
  by_cases h0 : n = 0
  · rw [h1 h0, if_pos h0]; rfl
  · have := h2 h0
    rw [if_neg h0]
    have e1 : (m + 7) / 8 = 1 := by omega
    rw [e1]; rfl

/-- The bytes of a number below 256, without needless noughts. -/
def digU (n : Nat) : List UInt8 := if n = 0 then [] else [UInt8.ofNat n]

theorem high_spec [Strm] (n : Nat) (hn : n < 256) (v : Value) (bs : List UInt8) (B : List (Nat × Obj)) (hl : bs.length ≤ 1000000) (w : World) (F : List (Nat × Obj)) (hs : Slc gB 1 5 v bs B) (H : SL w (B ++ F)) :
    Does Tryz.prog 117 #[v, .int .u64 (n : Int), .int .u8 0] w fun r w' => ∃ B', Slc gB 1 5 r (bs ++ digU n) B' ∧ SL w' (B' ++ F) := by
  refine Does.intro (args := [_, _, _]) (e := [(0, _), (1, _), (2, _)]) Tryz.func117 rfl Tryz.ntmps117 rfl rfl ?_
  repeat (first | refine .seq ?_ | refine .skip ?_ | refine .block ?_ | refine .inBlock ?_ | refine .yes rfl ?_ | refine .no rfl ?_ | refine .exit rfl ?_)
  repeat (first | refine .seq ?_ | refine .skip ?_ | refine .block ?_ | refine .inBlock ?_ | refine .yes rfl ?_ | refine .no rfl ?_ | refine .exit rfl ?_)
  refine RunsE.region ?_
  refine OpsE.ev (Ev.assign rfl) rfl ?_
  refine OpsE.nil ?_
  repeat (first | refine .seq ?_ | refine .skip ?_ | refine .block ?_ | refine .inBlock ?_ | refine .yes rfl ?_ | refine .no rfl ?_ | refine .exit rfl ?_)
  refine RunsE.region ?_
  refine OpsE.ev (Ev.move rfl) rfl ?_
  refine OpsE.ex (Ex.call rfl Tryz.call118 (width_spec n hn w _ H)) rfl ?_; (try clear H); rintro _ w ⟨rfl, H⟩
  refine OpsE.ev (Ev.sub (c := (((if n = 0 then 0 else 1 : Nat) : Int) - 1)) rfl rfl (by split <;> decide)) rfl ?_
  refine OpsE.ev (Ev.assign rfl) rfl ?_
  refine OpsE.nil ?_
  repeat refine RunsE.seq ?_
  refine RunsE.join (fun v : Value => [(0, v)]) (fun v w => ∃ B', Slc gB 1 5 v (bs ++ digU n) B' ∧ SL w (B' ++ F)) (fun next => ?_) ?_
  · refine RunsE.block ?_
    refine RunsE.loop (fun s : Value × Nat => [(0, s.1), (1, .int .u64 (n : Int)), (2, .int .u8 0), (7, .int .i64 ((s.2 : Int) - 1))])
      (fun s w => s.2 ≤ 1 ∧ (s.2 = 1 → n ≠ 0) ∧ ∃ B', Slc gB 1 5 s.1 (if s.2 = 1 then bs else bs ++ digU n) B' ∧ SL w (B' ++ F)) (fun s => s.2) (v, if n = 0 then 0 else 1) ⟨rfl, rfl, rfl, rfl, trivial⟩ ⟨by dsimp only; split <;> omega, fun h h0 => by simp [h0] at h, B, ?_, H⟩ ?_
    · by_cases h0 : n = 0
      · simp [h0, digU]; exact hs
      · simp [h0]; exact hs
    clear H hs
    rintro ⟨v, m⟩ w ⟨h1, h2, B, hs, H⟩ nextL
    simp only at h1 h2 hs
    by_cases hm : m = 0
    · subst hm
      repeat (first | refine .seq ?_ | refine .skip ?_ | refine .block ?_ | refine .inBlock ?_ | refine .yes rfl ?_ | refine .no rfl ?_ | refine .exit rfl ?_)
      refine RunsE.region ?_
      refine OpsE.ev (Ev.move rfl) rfl ?_
      refine OpsE.ev (Ev.geq (r := false) rfl rfl (decide_eq_false (by omega))) rfl ?_
      refine OpsE.nil ?_
      repeat refine RunsE.seq ?_
      refine RunsE.no rfl ?_
      refine RunsE.exit rfl ?_
      exact next v _ _ ⟨B, by simpa using hs, H⟩ ⟨rfl, trivial⟩
    · clear next
      obtain rfl : m = 1 := by omega
      have h0 := h2 rfl
      rw [if_pos rfl] at hs
      repeat (first | refine .seq ?_ | refine .skip ?_ | refine .block ?_ | refine .inBlock ?_ | refine .yes rfl ?_ | refine .no rfl ?_ | refine .exit rfl ?_)
      refine RunsE.region ?_
      refine OpsE.ev (Ev.move rfl) rfl ?_
      refine OpsE.ev (Ev.geq (r := true) rfl rfl (decide_eq_true (by omega))) rfl ?_
      refine OpsE.nil ?_
      repeat (first | refine .seq ?_ | refine .skip ?_ | refine .block ?_ | refine .inBlock ?_ | refine .yes rfl ?_ | refine .no rfl ?_ | refine .exit rfl ?_)
      repeat (first | refine .seq ?_ | refine .skip ?_ | refine .block ?_ | refine .inBlock ?_ | refine .yes rfl ?_ | refine .no rfl ?_ | refine .exit rfl ?_)
      refine RunsE.region ?_
      refine OpsE.ev (Ev.move rfl) rfl ?_
      refine OpsE.ev (Ev.move rfl) rfl ?_
      refine OpsE.ev (Ev.move rfl) rfl ?_
      refine OpsE.ev (Ev.mul (c := 0) rfl rfl (by dsimp only; decide)) rfl ?_
      refine OpsE.ev (Ev.shr (c := (n : Int)) rfl rfl (by omega) (by rw [show (2 ^ (min (0 : Int).toNat IntKind.u64.bits) : Int) = 1 by decide]; rw [Int.fdiv_one])) rfl ?_
      refine OpsE.ev (Ev.conv (c := (n : Int)) (k' := .u8) rfl (by kernel_rfl) (by kernel_rfl) (qu8 (by omega) (by omega))) rfl ?_
      refine OpsE.ev (Ev.move rfl) rfl ?_
      refine OpsE.ev (Ev.xor (c := ((UInt8.ofNat n).toNat : Int)) rfl rfl (xor0 n hn)) rfl ?_
      refine OpsE.ex (Ex.buildSl (T := 5) (zv := .int .u8 0) H rfl (by kernel_rfl) (by kernel_rfl) (by simp [Value.oneCell']) rfl (by omega) (by omega)) rfl ?_; (try clear H); rintro _ w ⟨b23, rfl, H⟩
      refine OpsE.ex (Ex.append (g := gB) (by_ := 1) (zv := .int .u8 0) (ys := [UInt8.ofNat n]) H.drop rfl rfl hs (Src.row0 H m0 rfl) (fun _ => rfl) (by simp [Value.oneCell']) (by kernel_rfl) (by kernel_rfl) (by kernel_rfl) (by kernel_rfl) rfl (by simp; omega) (by simp; omega)) rfl ?_; (try clear H); rintro v' w ⟨B, hs, H⟩
      refine OpsE.ev (Ev.assign rfl) rfl ?_
      refine OpsE.nil ?_
      repeat (first | refine .seq ?_ | refine .skip ?_ | refine .block ?_ | refine .inBlock ?_ | refine .yes rfl ?_ | refine .no rfl ?_ | refine .exit rfl ?_)
      refine RunsE.region ?_
      refine OpsE.ev (Ev.move rfl) rfl ?_
      refine OpsE.ev (Ev.sub (c := (((0 : Nat) : Int) - 1)) rfl rfl (by dsimp only; decide)) rfl ?_
      refine OpsE.ev (Ev.assign rfl) rfl ?_
      refine OpsE.nil ?_
      refine nextL (v', 0) _ _ (by simp) ⟨by simp, by simp, B, ?_, H⟩ ⟨rfl, rfl, rfl, rfl, trivial⟩
      simp only [digU, h0, if_false]
      exact hs
  · clear H hs
    rintro v w ⟨B, hs, H⟩
    repeat (first | refine .seq ?_ | refine .skip ?_ | refine .block ?_ | refine .inBlock ?_ | refine .yes rfl ?_ | refine .no rfl ?_ | refine .exit rfl ?_)
    refine RunsE.region ?_
    refine OpsE.ev (Ev.move rfl) rfl ?_
    refine OpsE.ev (Ev.assign rfl) rfl ?_
    refine OpsE.nil ?_
    repeat (first | refine .seq ?_ | refine .skip ?_ | refine .block ?_ | refine .inBlock ?_ | refine .yes rfl ?_ | refine .no rfl ?_ | refine .exit rfl ?_)
    exact RunsE.ret1 Tryz.func117 rfl rfl ⟨B, hs, H⟩

/-- A writer at the block b: what is laid. -/
abbrev wrO (v : Value) : Obj := .cells #[v] 183 (0, 0)
inductive WrH (b : Nat) (bs : List UInt8) : List (Nat × Obj) → Prop where
  | mk (v : Value) (B : List (Nat × Obj)) (hs : Slc gB 1 5 v bs B) : WrH b bs ((b, wrO v) :: B)

theorem wnew_spec [Strm] (w : World) (F : List (Nat × Obj)) (H : SL w F) :
    Does Tryz.prog 84 #[] w fun r w' => ∃ b A, r = .pointer (some ⟨b, 0, none⟩) ∧ WrH b [] A ∧ SL w' (A ++ F) := by
  refine Does.intro (args := []) (e := []) Tryz.func84 rfl Tryz.ntmps84 rfl rfl ?_
  repeat (first | refine .seq ?_ | refine .skip ?_ | refine .block ?_ | refine .inBlock ?_ | refine .yes rfl ?_ | refine .no rfl ?_ | refine .exit rfl ?_)
  refine RunsE.region ?_
  refine OpsE.ev (Ev.assign rfl) rfl ?_
  refine OpsE.nil ?_
  repeat (first | refine .seq ?_ | refine .skip ?_ | refine .block ?_ | refine .inBlock ?_ | refine .yes rfl ?_ | refine .no rfl ?_ | refine .exit rfl ?_)
  refine RunsE.region ?_
  refine OpsE.ex (Ex.alloc (zv := .agg #[.slice none 0 0]) H (by kernel_rfl)) rfl ?_; (try clear H); rintro _ w ⟨b1, rfl, H⟩; simp only [Value.cells] at H
  refine OpsE.ev (Ev.assign rfl) rfl ?_
  refine OpsE.nil ?_
  repeat (first | refine .seq ?_ | refine .skip ?_ | refine .block ?_ | refine .inBlock ?_ | refine .yes rfl ?_ | refine .no rfl ?_ | refine .exit rfl ?_)
  exact RunsE.ret1 Tryz.func84 rfl rfl ⟨_, _, rfl, .mk _ [] .nil, H⟩

theorem wuint_spec [Strm] (n : Nat) (hn : n < 256) (b : Nat) (bs : List UInt8) (hl : bs.length ≤ 100000) (A : List (Nat × Obj)) (w : World) (F : List (Nat × Obj)) (hA : WrH b bs A) (H : SL w (A ++ F)) :
    Does Tryz.prog 104 #[.pointer (some ⟨b, 0, none⟩), .int .u64 (n : Int)] w fun r w' => ∃ A', r = .pointer (some ⟨b, 0, none⟩) ∧ WrH b (bs ++ encU n) A' ∧ SL w' (A' ++ F) := by
  obtain ⟨v, B, hs⟩ := hA
  rw [List.cons_append] at H
  refine Does.intro (args := [_, _]) (e := [(0, _), (1, _)]) Tryz.func104 rfl Tryz.ntmps104 rfl rfl ?_
  repeat (first | refine .seq ?_ | refine .skip ?_ | refine .block ?_ | refine .inBlock ?_ | refine .yes rfl ?_ | refine .no rfl ?_ | refine .exit rfl ?_)
  repeat (first | refine .seq ?_ | refine .skip ?_ | refine .block ?_ | refine .inBlock ?_ | refine .yes rfl ?_ | refine .no rfl ?_ | refine .exit rfl ?_)
  refine RunsE.region ?_
  refine OpsE.ev (Ev.assign rfl) rfl ?_
  refine OpsE.nil ?_
  repeat (first | refine .seq ?_ | refine .skip ?_ | refine .block ?_ | refine .inBlock ?_ | refine .yes rfl ?_ | refine .no rfl ?_ | refine .exit rfl ?_)
  refine RunsE.region ?_
  refine OpsE.ev (Ev.move rfl) rfl ?_
  refine OpsE.ev (Ev.ptrNilNe (el := 183) rfl rfl (by kernel_rfl)) rfl ?_
  refine OpsE.nil ?_
  repeat (first | refine .seq ?_ | refine .skip ?_ | refine .block ?_ | refine .inBlock ?_ | refine .yes rfl ?_ | refine .no rfl ?_ | refine .exit rfl ?_)
  repeat (first | refine .seq ?_ | refine .skip ?_ | refine .block ?_ | refine .inBlock ?_ | refine .yes rfl ?_ | refine .no rfl ?_ | refine .exit rfl ?_)
  refine RunsE.drawS H [9, 11, 14] (by kernel_rfl) ?_; (try clear H); intro w H
  refine OpsD.takeU 0 rfl (by kernel_rfl) (fun w => Ev.move rfl) rfl ?_
  refine OpsD.take 1 rfl (by kernel_rfl) H (fun w H => Ev.move rfl) rfl ?_
  refine OpsD.take 2 rfl (by kernel_rfl) H (fun w H => Ev.nilCheck rfl) rfl ?_
  refine OpsD.take 3 rfl (by kernel_rfl) H (fun w H => Ev.fieldAddr (o := 0) rfl (by kernel_rfl)) rfl ?_
  refine OpsD.take 4 rfl (by kernel_rfl) H (fun w H => Ev.load H rfl (by kernel_rfl) (by first | exact Rd.mk m0 rfl | exact Rd.mk m1 rfl | exact Rd.mk m2 rfl | exact Rd.mk m3 rfl | assumption)) rfl ?_
  refine OpsD.take 5 rfl (by kernel_rfl) H (fun w H => Ev.move rfl) rfl ?_
  refine OpsD.takeU 10 rfl (by kernel_rfl) (fun w => Ev.move rfl) rfl ?_
  refine OpsD.one 6 (by kernel_rfl) (StepD.ex rfl (Ex.call rfl Tryz.call118 (width_spec n hn w _ H)) rfl ?_); (try clear H); rintro _ w ⟨rfl, H⟩; refine ⟨(by first | exact H | exact H.drop | exact H.drop.drop | exact H.dropL | exact H.drop.dropL | exact H.dropL.drop | exact H.dropL.dropL | exact H.dropMid), ?_⟩
  refine OpsD.take 7 rfl (by kernel_rfl) (by first | exact H | exact H.drop | exact H.drop.drop | exact H.dropL | exact H.drop.dropL | exact H.dropL.drop | exact H.dropL.dropL | exact H.dropMid) (fun w H => Ev.conv (c := ((UInt8.ofNat (if n = 0 then 0 else 1)).toNat : Int)) (k' := .u8) rfl (by kernel_rfl) (by kernel_rfl) (by split <;> decide)) rfl ?_
  refine OpsD.one 8 (by kernel_rfl) (StepD.ex rfl (Ex.buildSl (T := 5) (zv := .int .u8 0) H rfl (by kernel_rfl) (by kernel_rfl) (by simp [Value.oneCell']) rfl (by omega) (by omega)) rfl ?_); (try clear H); rintro _ w ⟨b15, rfl, H⟩; refine ⟨(by first | exact H | exact H.drop | exact H.drop.drop | exact H.dropL | exact H.drop.dropL | exact H.dropL.drop | exact H.dropL.dropL | exact H.dropMid), ?_⟩
  refine OpsD.one 9 (by kernel_rfl) (StepD.exT rfl rfl (Ex.append (g := gB) (by_ := 1) (zv := .int .u8 0) (ys := [UInt8.ofNat (if n = 0 then 0 else 1)]) H.drop.mid rfl rfl hs (Src.row0 H m0 rfl) (fun _ => rfl) (by simp [Value.oneCell']) (by kernel_rfl) (by kernel_rfl) (by kernel_rfl) (by kernel_rfl) rfl (by simp; omega) (by simp; omega)) rfl ?_); (try clear H); rintro v' w ⟨B, hs, H⟩
  refine OpsD.one 11 (by kernel_rfl) (StepD.exT rfl rfl (Ex.call rfl Tryz.call117 (high_spec n hn _ _ B (by simp; omega) w _ hs H)) rfl ?_); (try clear H); rintro v' w ⟨B, hs, H⟩
  refine OpsD.takeU 12 rfl (by kernel_rfl) (fun w => Ev.nilCheck rfl) rfl ?_
  refine OpsD.takeU 13 rfl (by kernel_rfl) (fun w => Ev.fieldAddr (o := 0) rfl (by kernel_rfl)) rfl ?_
  refine OpsD.one 14 (by kernel_rfl) (StepD.exnT rfl rfl (Ex.store1 H.unmid rfl rfl (by kernel_rfl) (by obtain ⟨_, _, rfl⟩ := hs.len; rfl) u0 (by simp) (Thaw.zero _ _) rfl) ?_); (try clear H); intro _ w H
  refine OpsD.done (by kernel_rfl) ?_
  repeat (first | refine .seq ?_ | refine .skip ?_ | refine .block ?_ | refine .inBlock ?_ | refine .yes rfl ?_ | refine .no rfl ?_ | refine .exit rfl ?_)
  refine RunsE.region ?_
  refine OpsE.ev (Ev.move rfl) rfl ?_
  refine OpsE.ev (Ev.assign rfl) rfl ?_
  refine OpsE.nil ?_
  repeat (first | refine .seq ?_ | refine .skip ?_ | refine .block ?_ | refine .inBlock ?_ | refine .yes rfl ?_ | refine .no rfl ?_ | refine .exit rfl ?_)
  refine RunsE.ret1 Tryz.func104 rfl rfl ⟨_, rfl, .mk v' B ?_, H⟩
  have e1 : bs ++ [UInt8.ofNat (if n = 0 then 0 else 1)] ++ digU n = bs ++ encU n := by
    unfold digU encU
    by_cases h0 : n = 0
    · simp [h0]
    · simp [h0]
  rw [← e1]
  exact hs

set_option maxHeartbeats 1000000 in
theorem wbytes_spec [Strm] (xs : List UInt8) (vx : Value) (hx : xs.length ≤ 100000) (b : Nat) (bs : List UInt8) (hl : bs.length ≤ 1000000) (A : List (Nat × Obj)) (w : World) (F : List (Nat × Obj)) (hA : WrH b bs A) (hvx : Inp F vx xs) (H : SL w (A ++ F)) :
    Does Tryz.prog 85 #[.pointer (some ⟨b, 0, none⟩), vx] w fun r w' => ∃ A', r = .pointer (some ⟨b, 0, none⟩) ∧ WrH b (bs ++ encB xs) A' ∧ SL w' (A' ++ F) := by
  obtain ⟨v, B, hs⟩ := hA
  rw [List.cons_append] at H
  obtain ⟨ax, cx, rfl, hcx⟩ := hvx.len
  refine Does.intro (args := [_, _]) (e := [(0, _), (1, _)]) Tryz.func85 rfl Tryz.ntmps85 rfl rfl ?_
  repeat (first | refine .seq ?_ | refine .skip ?_ | refine .block ?_ | refine .inBlock ?_ | refine .yes rfl ?_ | refine .no rfl ?_ | refine .exit rfl ?_)
  repeat (first | refine .seq ?_ | refine .skip ?_ | refine .block ?_ | refine .inBlock ?_ | refine .yes rfl ?_ | refine .no rfl ?_ | refine .exit rfl ?_)
  refine RunsE.region ?_
  refine OpsE.ev (Ev.assign rfl) rfl ?_
  refine OpsE.nil ?_
  repeat (first | refine .seq ?_ | refine .skip ?_ | refine .block ?_ | refine .inBlock ?_ | refine .yes rfl ?_ | refine .no rfl ?_ | refine .exit rfl ?_)
  refine RunsE.region ?_
  refine OpsE.ev (Ev.move rfl) rfl ?_
  refine OpsE.ev (Ev.ptrNilEq (el := 183) rfl rfl (by kernel_rfl)) rfl ?_
  refine OpsE.nil ?_
  repeat (first | refine .seq ?_ | refine .skip ?_ | refine .block ?_ | refine .inBlock ?_ | refine .yes rfl ?_ | refine .no rfl ?_ | refine .exit rfl ?_)
  refine RunsE.region ?_
  refine OpsE.ev (Ev.move rfl) rfl ?_
  refine OpsE.ev (Ev.lenSl (d := 5) rfl rfl (by kernel_rfl)) rfl ?_
  refine OpsE.ev (Ev.move rfl) rfl ?_
  refine OpsE.nil ?_
  repeat refine RunsE.seq ?_
  refine RunsE.join (fun _ : Unit => [(0, .pointer (some ⟨b, 0, none⟩))]) (fun _ w => ∃ v B, Slc gB 1 5 v (bs ++ xs.flatMap encC) B ∧ SL w ((b, wrO v) :: (B ++ F))) (fun next => ?_) ?_
  · refine RunsE.block ?_
    refine RunsE.loop (fun i : Nat => [(0, .pointer (some ⟨b, 0, none⟩)), (9, .slice ax xs.length cx), (10, .int .i64 (xs.length : Int)), (11, .int .i64 (i : Int))])
      (fun i w => i ≤ xs.length ∧ ∃ v B, Slc gB 1 5 v (bs ++ (xs.take i).flatMap encC) B ∧ SL w ((b, wrO v) :: (B ++ F))) (fun i => xs.length - i) 0 ⟨rfl, rfl, rfl, rfl, trivial⟩ ⟨by omega, v, B, by simpa using hs, H⟩ ?_
    clear H hs v B
    rintro i w ⟨hi, v, B, hs, H⟩ nextL
    by_cases h1 : i = xs.length
    ·
      repeat (first | refine .seq ?_ | refine .skip ?_ | refine .block ?_ | refine .inBlock ?_ | refine .yes rfl ?_ | refine .no rfl ?_ | refine .exit rfl ?_)
      refine RunsE.region ?_
      refine OpsE.ev (Ev.lss (r := false) rfl rfl (decide_eq_false (by omega))) rfl ?_
      refine OpsE.nil ?_
      repeat refine RunsE.seq ?_
      refine RunsE.no rfl ?_
      refine RunsE.exit rfl ?_
      rw [h1, List.take_length] at hs
      exact next () _ _ ⟨v, B, hs, H⟩ ⟨rfl, trivial⟩
    · clear next
      obtain ⟨bx, ox, rfl, hrd⟩ := hvx.atI (i := i) (by omega)
      obtain ⟨c, hc⟩ : ∃ c, c = xs.getD i 0 := ⟨_, rfl⟩
      rw [← hc] at hrd
      have htk : ((xs.take i).flatMap encC).length ≤ 2 * i := by
        have h2 := (encB_len (xs.take i)).2
        unfold encB at h2
        rw [List.length_append, List.length_take] at h2
        simp only [List.length_cons, List.length_nil] at h2
        omega
      have hsucc : (xs.take (i + 1)).flatMap encC = (xs.take i).flatMap encC ++ encC c := by
        rw [take_succD (d := 0) (by omega), List.flatMap_append, ← hc]
        simp
      repeat (first | refine .seq ?_ | refine .skip ?_ | refine .block ?_ | refine .inBlock ?_ | refine .yes rfl ?_ | refine .no rfl ?_ | refine .exit rfl ?_)
      refine RunsE.region ?_
      refine OpsE.ev (Ev.lss (r := true) rfl rfl (decide_eq_true (by omega))) rfl ?_
      refine OpsE.nil ?_
      repeat (first | refine .seq ?_ | refine .skip ?_ | refine .block ?_ | refine .inBlock ?_ | refine .yes rfl ?_ | refine .no rfl ?_ | refine .exit rfl ?_)
      repeat (first | refine .seq ?_ | refine .skip ?_ | refine .block ?_ | refine .inBlock ?_ | refine .yes rfl ?_ | refine .no rfl ?_ | refine .exit rfl ?_)
      refine RunsE.region ?_
      refine OpsE.ev (Ev.iaSl (n := 5) (sz := 1) (m := i) (o := ox + i) rfl rfl rfl (by kernel_rfl) (by omega) (by rw [Nat.mul_one])) rfl ?_
      refine OpsE.ev (Ev.load (v := BV c) H rfl (by kernel_rfl) (hrd.right.tail)) rfl ?_
      refine OpsE.ev (Ev.assign rfl) rfl ?_
      refine OpsE.nil ?_
      repeat (first | refine .seq ?_ | refine .skip ?_ | refine .block ?_ | refine .inBlock ?_ | refine .yes rfl ?_ | refine .no rfl ?_ | refine .exit rfl ?_)
      refine RunsE.region ?_
      refine OpsE.ev (Ev.move rfl) rfl ?_
      refine OpsE.ev (Ev.move rfl) rfl ?_
      refine OpsE.ev (Ev.nilCheck rfl) rfl ?_
      refine OpsE.ev (Ev.fieldAddr (o := 0) rfl (by kernel_rfl)) rfl ?_
      refine OpsE.ev (Ev.load H rfl (by kernel_rfl) (by first | exact Rd.mk m0 rfl | exact Rd.mk m1 rfl | exact Rd.mk m2 rfl | exact Rd.mk m3 rfl | assumption)) rfl ?_
      refine OpsE.ev (Ev.move rfl) rfl ?_
      refine OpsE.ex (Ex.buildSl (T := 5) (zv := .int .u8 0) H rfl (by kernel_rfl) (by kernel_rfl) (by simp [Value.oneCell']) rfl (by omega) (by omega)) rfl ?_; (try clear H); rintro _ w ⟨b21, rfl, H⟩
      refine OpsE.ex (Ex.append (g := gB) (by_ := 1) (zv := .int .u8 0) (ys := [c]) H.drop.mid rfl rfl hs (Src.row0 H m0 rfl) (fun _ => rfl) (by simp [Value.oneCell']) (by kernel_rfl) (by kernel_rfl) (by kernel_rfl) (by kernel_rfl) rfl (by simp only [List.length_append, List.length_cons, List.length_nil]; omega) (by simp only [List.length_append, List.length_cons, List.length_nil]; omega)) rfl ?_; (try clear H); rintro v' w ⟨B, hs, H⟩
      refine OpsE.ev (Ev.nilCheck rfl) rfl ?_
      refine OpsE.ev (Ev.fieldAddr (o := 0) rfl (by kernel_rfl)) rfl ?_
      refine OpsE.exn (Ex.store1 H.unmid rfl rfl (by kernel_rfl) (by obtain ⟨_, _, rfl⟩ := hs.len; rfl) u0 (by simp) (Thaw.zero _ _) rfl) ?_; (try clear H); intro _ w H
      refine OpsE.nil ?_
      by_cases h0 : c = 0
      · subst h0
        repeat (first | refine .seq ?_ | refine .skip ?_ | refine .block ?_ | refine .inBlock ?_ | refine .yes rfl ?_ | refine .no rfl ?_ | refine .exit rfl ?_)
        refine RunsE.region ?_
        refine OpsE.ev (Ev.move rfl) rfl ?_
        refine OpsE.ev (Ev.eql (r := true) rfl rfl rfl) rfl ?_
        refine OpsE.nil ?_
        repeat (first | refine .seq ?_ | refine .skip ?_ | refine .block ?_ | refine .inBlock ?_ | refine .yes rfl ?_ | refine .no rfl ?_ | refine .exit rfl ?_)
        repeat (first | refine .seq ?_ | refine .skip ?_ | refine .block ?_ | refine .inBlock ?_ | refine .yes rfl ?_ | refine .no rfl ?_ | refine .exit rfl ?_)
        refine RunsE.region ?_
        refine OpsE.ev (Ev.move rfl) rfl ?_
        refine OpsE.ev (Ev.move rfl) rfl ?_
        refine OpsE.ev (Ev.nilCheck rfl) rfl ?_
        refine OpsE.ev (Ev.fieldAddr (o := 0) rfl (by kernel_rfl)) rfl ?_
        refine OpsE.ev (Ev.load H rfl (by kernel_rfl) (by first | exact Rd.mk m0 rfl | exact Rd.mk m1 rfl | exact Rd.mk m2 rfl | exact Rd.mk m3 rfl | assumption)) rfl ?_
        refine OpsE.ex (Ex.buildSl (T := 5) (zv := .int .u8 0) H rfl (by kernel_rfl) (by kernel_rfl) (by simp [Value.oneCell']) rfl (by omega) (by omega)) rfl ?_; (try clear H); rintro _ w ⟨b32, rfl, H⟩
        refine OpsE.ex (Ex.append (g := gB) (by_ := 1) (zv := .int .u8 0) (ys := [255]) H.drop.mid rfl rfl hs (Src.row0 H m0 rfl) (fun _ => rfl) (by simp [Value.oneCell']) (by kernel_rfl) (by kernel_rfl) (by kernel_rfl) (by kernel_rfl) rfl (by simp only [List.length_append, List.length_cons, List.length_nil]; omega) (by simp only [List.length_append, List.length_cons, List.length_nil]; omega)) rfl ?_; (try clear H); rintro v' w ⟨B, hs, H⟩
        refine OpsE.ev (Ev.nilCheck rfl) rfl ?_
        refine OpsE.ev (Ev.fieldAddr (o := 0) rfl (by kernel_rfl)) rfl ?_
        refine OpsE.exn (Ex.store1 H.unmid rfl rfl (by kernel_rfl) (by obtain ⟨_, _, rfl⟩ := hs.len; rfl) u0 (by simp) (Thaw.zero _ _) rfl) ?_; (try clear H); intro _ w H
        refine OpsE.nil ?_
        repeat (first | refine .seq ?_ | refine .skip ?_ | refine .block ?_ | refine .inBlock ?_ | refine .yes rfl ?_ | refine .no rfl ?_ | refine .exit rfl ?_)
        refine RunsE.region ?_
        refine OpsE.ev (Ev.add rfl rfl) rfl ?_
        refine OpsE.ev (Ev.move rfl) rfl ?_
        refine OpsE.nil ?_
        refine nextL (i + 1) _ _ (by omega) ⟨by omega, _, B, ?_, H⟩ ⟨rfl, rfl, rfl, rfl, trivial⟩
        rw [hsucc]
        simpa [encC] using hs
      · have hz : c.toNat ≠ 0 := fun h => h0 (UInt8.toNat_inj.1 (by simpa using h))
        repeat (first | refine .seq ?_ | refine .skip ?_ | refine .block ?_ | refine .inBlock ?_ | refine .yes rfl ?_ | refine .no rfl ?_ | refine .exit rfl ?_)
        refine RunsE.region ?_
        refine OpsE.ev (Ev.move rfl) rfl ?_
        refine OpsE.ev (Ev.eql (r := false) rfl rfl (beq_eq_false_iff_ne.2 (by omega))) rfl ?_
        refine OpsE.nil ?_
        repeat (first | refine .seq ?_ | refine .skip ?_ | refine .block ?_ | refine .inBlock ?_ | refine .yes rfl ?_ | refine .no rfl ?_ | refine .exit rfl ?_)
        repeat (first | refine .seq ?_ | refine .skip ?_ | refine .block ?_ | refine .inBlock ?_ | refine .yes rfl ?_ | refine .no rfl ?_ | refine .exit rfl ?_)
        refine RunsE.region ?_
        refine OpsE.ev (Ev.add rfl rfl) rfl ?_
        refine OpsE.ev (Ev.move rfl) rfl ?_
        refine OpsE.nil ?_
        refine nextL (i + 1) _ _ (by omega) ⟨by omega, _, B, ?_, H⟩ ⟨rfl, rfl, rfl, rfl, trivial⟩
        rw [hsucc]
        simpa [encC, h0] using hs
  · clear H hs v B
    rintro _ w ⟨v, B, hs, H⟩
    have htk : (xs.flatMap encC).length ≤ 2 * xs.length := by
      have h2 := (encB_len xs).2
      unfold encB at h2
      rw [List.length_append] at h2
      simp only [List.length_cons, List.length_nil] at h2
      omega
    repeat (first | refine .seq ?_ | refine .skip ?_ | refine .block ?_ | refine .inBlock ?_ | refine .yes rfl ?_ | refine .no rfl ?_ | refine .exit rfl ?_)
    refine RunsE.region ?_
    refine OpsE.ev (Ev.move rfl) rfl ?_
    refine OpsE.ev (Ev.move rfl) rfl ?_
    refine OpsE.ev (Ev.nilCheck rfl) rfl ?_
    refine OpsE.ev (Ev.fieldAddr (o := 0) rfl (by kernel_rfl)) rfl ?_
    refine OpsE.ev (Ev.load H rfl (by kernel_rfl) (by first | exact Rd.mk m0 rfl | exact Rd.mk m1 rfl | exact Rd.mk m2 rfl | exact Rd.mk m3 rfl | assumption)) rfl ?_
    refine OpsE.ex (Ex.buildSl (T := 5) (zv := .int .u8 0) H rfl (by kernel_rfl) (by kernel_rfl) (by simp [Value.oneCell']) rfl (by omega) (by omega)) rfl ?_; (try clear H); rintro _ w ⟨b42, rfl, H⟩
    refine OpsE.ex (Ex.append (g := gB) (by_ := 1) (zv := .int .u8 0) (ys := [0, 0]) H.drop.mid rfl rfl hs (Src.row0 H m0 rfl) (fun _ => rfl) (by simp [Value.oneCell']) (by kernel_rfl) (by kernel_rfl) (by kernel_rfl) (by kernel_rfl) rfl (by simp only [List.length_append, List.length_cons, List.length_nil]; omega) (by simp only [List.length_append, List.length_cons, List.length_nil]; omega)) rfl ?_; (try clear H); rintro v' w ⟨B, hs, H⟩
    refine OpsE.ev (Ev.nilCheck rfl) rfl ?_
    refine OpsE.ev (Ev.fieldAddr (o := 0) rfl (by kernel_rfl)) rfl ?_
    refine OpsE.exn (Ex.store1 H.unmid rfl rfl (by kernel_rfl) (by obtain ⟨_, _, rfl⟩ := hs.len; rfl) u0 (by simp) (Thaw.zero _ _) rfl) ?_; (try clear H); intro _ w H
    refine OpsE.nil ?_
    repeat (first | refine .seq ?_ | refine .skip ?_ | refine .block ?_ | refine .inBlock ?_ | refine .yes rfl ?_ | refine .no rfl ?_ | refine .exit rfl ?_)
    refine RunsE.region ?_
    refine OpsE.ev (Ev.move rfl) rfl ?_
    refine OpsE.ev (Ev.assign rfl) rfl ?_
    refine OpsE.nil ?_
    repeat (first | refine .seq ?_ | refine .skip ?_ | refine .block ?_ | refine .inBlock ?_ | refine .yes rfl ?_ | refine .no rfl ?_ | refine .exit rfl ?_)
    refine RunsE.ret1 Tryz.func85 rfl rfl ⟨_, rfl, .mk _ B ?_, H⟩
    unfold encB
    rw [← List.append_assoc]
    exact hs

theorem wdone_spec [Strm] (b : Nat) (bs : List UInt8) (hl : bs.length ≤ 10000000) (A : List (Nat × Obj)) (w : World) (F : List (Nat × Obj)) (hA : WrH b bs A) (H : SL w (A ++ F)) :
    Does Tryz.prog 86 #[.pointer (some ⟨b, 0, none⟩)] w fun r w' => ∃ B, Slc gB 1 5 r bs B ∧ SL w' (B ++ F) := by
  obtain ⟨v, B, hs⟩ := hA
  rw [List.cons_append] at H
  refine Does.intro (args := [_]) (e := [(0, _)]) Tryz.func86 rfl Tryz.ntmps86 rfl rfl ?_
  repeat (first | refine .seq ?_ | refine .skip ?_ | refine .block ?_ | refine .inBlock ?_ | refine .yes rfl ?_ | refine .no rfl ?_ | refine .exit rfl ?_)
  repeat (first | refine .seq ?_ | refine .skip ?_ | refine .block ?_ | refine .inBlock ?_ | refine .yes rfl ?_ | refine .no rfl ?_ | refine .exit rfl ?_)
  refine RunsE.region ?_
  refine OpsE.ev (Ev.assign rfl) rfl ?_
  refine OpsE.nil ?_
  repeat (first | refine .seq ?_ | refine .skip ?_ | refine .block ?_ | refine .inBlock ?_ | refine .yes rfl ?_ | refine .no rfl ?_ | refine .exit rfl ?_)
  refine RunsE.region ?_
  refine OpsE.ev (Ev.move rfl) rfl ?_
  refine OpsE.ev (Ev.ptrNilEq (el := 183) rfl rfl (by kernel_rfl)) rfl ?_
  refine OpsE.nil ?_
  repeat (first | refine .seq ?_ | refine .skip ?_ | refine .block ?_ | refine .inBlock ?_ | refine .yes rfl ?_ | refine .no rfl ?_ | refine .exit rfl ?_)
  refine RunsE.region ?_
  refine OpsE.ev (Ev.move rfl) rfl ?_
  refine OpsE.ev (Ev.nilCheck rfl) rfl ?_
  refine OpsE.ev (Ev.fieldAddr (o := 0) rfl (by kernel_rfl)) rfl ?_
  refine OpsE.ev (Ev.load H rfl (by kernel_rfl) (by first | exact Rd.mk m0 rfl | exact Rd.mk m1 rfl | exact Rd.mk m2 rfl | exact Rd.mk m3 rfl | assumption)) rfl ?_
  refine OpsE.ex (Ex.call rfl Tryz.call31 (clone_spec v bs (by omega) w _ (hs.inp.tail) H)) rfl ?_; (try clear H); rintro v' w ⟨B', hs', H⟩
  refine OpsE.ev (Ev.assign rfl) rfl ?_
  refine OpsE.nil ?_
  repeat (first | refine .seq ?_ | refine .skip ?_ | refine .block ?_ | refine .inBlock ?_ | refine .yes rfl ?_ | refine .no rfl ?_ | refine .exit rfl ?_)
  exact RunsE.ret1 Tryz.func86 rfl rfl ⟨B', hs', H.dropMid.dropIn⟩

end Go.Proofs.YtflfaiakenahlaaGreatDoor
end

section
/-
  Layer 1's reader, walked.
-/
namespace Go.Proofs.YtflfaiakenahlaaGreatDoor.V

theorem or256 (a c : Nat) (ha : a < 72057594037927936) (hc : c < 256) : IntKind.u64.wrap ((BitVec.ofInt IntKind.u64.bits (((256 * a : Nat) : Int)) ||| BitVec.ofInt IntKind.u64.bits ((c : Nat) : Int)).toNat) = ((256 * a + c : Nat) : Int) := by
  have e1 : ∀ n : Nat, n < 18446744073709551616 → (BitVec.ofInt IntKind.u64.bits (n : Int)).toNat = n := by
    intro n hn
    show (BitVec.ofInt 64 (n : Int)).toNat = n
    rw [BitVec.toNat_ofInt]
    omega
  have e2 : (256 * a) ||| c = 256 * a + c := by
    have := Nat.shiftLeft_add_eq_or_of_lt (i := 8) (b := c) (by omega) a
    rw [Nat.shiftLeft_eq] at this
    rw [show 256 * a = a * 2 ^ 8 by omega]
    exact this.symm
  rw [BitVec.toNat_or, e1 _ (by omega), e1 _ (by omega), e2]
  exact qu64 (by omega) (by omega)

theorem xor0u (c : UInt8) : IntKind.u8.wrap ((BitVec.ofInt IntKind.u8.bits ((c.toNat : Nat) : Int) ^^^ BitVec.ofInt IntKind.u8.bits 0).toNat) = ((c.toNat : Nat) : Int) := by
  have hc := c.toNat_lt
  rw [xor0 _ (by omega), UInt8.toNat_ofNat']
  congr 1
  omega

/-- What the digits behind the first byte come to. -/
def lowM (r : List UInt8) (many : Nat) : Nat × Nat := if r.length < many then (12, 0) else if 0 < many ∧ r.head? = some 0 then (3, 0) else (0, be (r.take many))

theorem numM_low {c : UInt8} {r : List UInt8} {most : Nat} (h : ¬ 8 < c.toNat) : numM (c :: r) most = if (lowM r c.toNat).1 ≠ 0 then ((lowM r c.toNat).1, 0, 0) else if most < (lowM r c.toNat).2 then (4, 0, 0) else (0, (lowM r c.toNat).2, 1 + c.toNat) := by
  unfold lowM
  by_cases h2 : r.length < c.toNat
  · rw [numM_12 h h2, if_pos h2]; rfl
  by_cases h3 : 0 < c.toNat ∧ r.head? = some 0
  · rw [numM_f h h2 h3, if_neg h2, if_pos h3]; rfl
  rw [if_neg h2, if_neg h3]
  by_cases h4 : most < be (r.take c.toNat)
  · rw [numM_4 h h2 h3 h4]; simp [h4]
  · rw [numM_0 h h2 h3 h4]; simp [h4]

theorem drop_consD {α : Type} {l : List α} {i : Nat} {d : α} (h : i < l.length) : l.drop i = l.getD i d :: l.drop (i + 1) := by
  rw [List.drop_eq_getElem_cons h]
  simp [List.getD_eq_getElem?_getD, h]

end Go.Proofs.YtflfaiakenahlaaGreatDoor.V
namespace Go.Proofs.YtflfaiakenahlaaGreatDoor
open Go.Proofs.YtflfaiakenahlaaGreatDoor.V

abbrev rdO (v : Value) (at_ e : Nat) : Obj := .cells #[v, .int .i64 (at_ : Int), EV e] 131 (0, 0)

theorem rread_spec [Strm] (v : Value) (w : World) (F : List (Nat × Obj)) (H : SL w F) (hv : ∃ a n c, v = .slice a n c) :
    Does Tryz.prog 35 #[v] w fun r w' => ∃ b, r = .pointer (some ⟨b, 0, none⟩) ∧ SL w' ((b, rdO v 0 0) :: F) := by
  obtain ⟨a, n, c, rfl⟩ := hv
  refine Does.intro (args := [_]) (e := [(0, _)]) Tryz.func35 rfl Tryz.ntmps35 rfl rfl ?_
  repeat (first | refine .seq ?_ | refine .skip ?_ | refine .block ?_ | refine .inBlock ?_ | refine .yes rfl ?_ | refine .no rfl ?_ | refine .exit rfl ?_)
  repeat (first | refine .seq ?_ | refine .skip ?_ | refine .block ?_ | refine .inBlock ?_ | refine .yes rfl ?_ | refine .no rfl ?_ | refine .exit rfl ?_)
  refine RunsE.region ?_
  refine OpsE.ev (Ev.assign rfl) rfl ?_
  refine OpsE.nil ?_
  repeat (first | refine .seq ?_ | refine .skip ?_ | refine .block ?_ | refine .inBlock ?_ | refine .yes rfl ?_ | refine .no rfl ?_ | refine .exit rfl ?_)
  refine RunsE.region ?_
  refine OpsE.ev (Ev.move rfl) rfl ?_
  refine OpsE.ev (Ev.buildSt (pl := [(0, 1), (1, 1), (2, 1)]) (zv := .agg #[.slice none 0 0, .int .i64 0, .nilIface]) rfl (by kernel_rfl) (by kernel_rfl) rfl) rfl ?_
  refine OpsE.ex (Ex.box H rfl) rfl ?_; (try clear H); rintro _ w ⟨b5, rfl, H⟩; simp only [Value.cells] at H
  refine OpsE.ev (Ev.assign rfl) rfl ?_
  refine OpsE.nil ?_
  repeat (first | refine .seq ?_ | refine .skip ?_ | refine .block ?_ | refine .inBlock ?_ | refine .yes rfl ?_ | refine .no rfl ?_ | refine .exit rfl ?_)
  exact RunsE.ret1 Tryz.func35 rfl rfl ⟨_, rfl, H⟩

theorem off_spec [Strm] (b : Nat) (v : Value) (k e : Nat) (w : World) (F : List (Nat × Obj)) (H : SL w ((b, rdO v k e) :: F)) :
    Does Tryz.prog 67 #[.pointer (some ⟨b, 0, none⟩)] w fun r w' => r = .bool (decide (e ≠ 0)) ∧ SL w' ((b, rdO v k e) :: F) := by
  refine Does.intro (args := [_]) (e := [(0, _)]) Tryz.func67 rfl Tryz.ntmps67 rfl rfl ?_
  repeat (first | refine .seq ?_ | refine .skip ?_ | refine .block ?_ | refine .inBlock ?_ | refine .yes rfl ?_ | refine .no rfl ?_ | refine .exit rfl ?_)
  repeat (first | refine .seq ?_ | refine .skip ?_ | refine .block ?_ | refine .inBlock ?_ | refine .yes rfl ?_ | refine .no rfl ?_ | refine .exit rfl ?_)
  refine RunsE.region ?_
  refine OpsE.ev (Ev.assign rfl) rfl ?_
  refine OpsE.nil ?_
  cases e with
  | zero =>
    repeat (first | refine .seq ?_ | refine .skip ?_ | refine .block ?_ | refine .inBlock ?_ | refine .yes rfl ?_ | refine .no rfl ?_ | refine .exit rfl ?_)
    refine RunsE.region ?_
    refine OpsE.ev (Ev.move rfl) rfl ?_
    refine OpsE.ev (Ev.ptrNilEq (el := 131) rfl rfl (by kernel_rfl)) rfl ?_
    refine OpsE.ev (Ev.move rfl) rfl ?_
    first | (refine OpsE.yes rfl rfl ?_; refine OpsE.ev (Ev.move rfl) rfl ?_) | refine OpsE.no rfl rfl rfl ?_ | refine OpsE.off rfl rfl rfl ?_
    first | (refine OpsE.yes rfl rfl ?_; refine OpsE.ev (Ev.nilCheck rfl) rfl ?_) | refine OpsE.no rfl rfl rfl ?_ | refine OpsE.off rfl rfl rfl ?_
    first | (refine OpsE.yes rfl rfl ?_; refine OpsE.ev (Ev.fieldAddr (o := 2) rfl (by kernel_rfl)) rfl ?_) | refine OpsE.no rfl rfl rfl ?_ | refine OpsE.off rfl rfl rfl ?_
    first | (refine OpsE.yes rfl rfl ?_; refine OpsE.ev (Ev.load H rfl (by kernel_rfl) (by first | exact Rd.mk m0 rfl | exact Rd.mk m1 rfl | exact Rd.mk m2 rfl | exact Rd.mk m3 rfl | assumption)) rfl ?_) | refine OpsE.no rfl rfl rfl ?_ | refine OpsE.off rfl rfl rfl ?_
    first | (refine OpsE.yes rfl rfl ?_; refine OpsE.ev (Ev.ifNilNeF rfl Tryz.underlying26) rfl ?_) | refine OpsE.no rfl rfl rfl ?_ | refine OpsE.off rfl rfl rfl ?_
    refine OpsE.ev ((by first | exact Ev.pickT rfl rfl | exact Ev.pickF rfl rfl)) rfl ?_
    refine OpsE.ev (Ev.assign rfl) rfl ?_
    refine OpsE.nil ?_
    repeat (first | refine .seq ?_ | refine .skip ?_ | refine .block ?_ | refine .inBlock ?_ | refine .yes rfl ?_ | refine .no rfl ?_ | refine .exit rfl ?_)
    exact RunsE.ret1 Tryz.func67 rfl rfl ⟨rfl, H⟩
  | succ n =>
    repeat (first | refine .seq ?_ | refine .skip ?_ | refine .block ?_ | refine .inBlock ?_ | refine .yes rfl ?_ | refine .no rfl ?_ | refine .exit rfl ?_)
    refine RunsE.region ?_
    refine OpsE.ev (Ev.move rfl) rfl ?_
    refine OpsE.ev (Ev.ptrNilEq (el := 131) rfl rfl (by kernel_rfl)) rfl ?_
    refine OpsE.ev (Ev.move rfl) rfl ?_
    first | (refine OpsE.yes rfl rfl ?_; refine OpsE.ev (Ev.move rfl) rfl ?_) | refine OpsE.no rfl rfl rfl ?_ | refine OpsE.off rfl rfl rfl ?_
    first | (refine OpsE.yes rfl rfl ?_; refine OpsE.ev (Ev.nilCheck rfl) rfl ?_) | refine OpsE.no rfl rfl rfl ?_ | refine OpsE.off rfl rfl rfl ?_
    first | (refine OpsE.yes rfl rfl ?_; refine OpsE.ev (Ev.fieldAddr (o := 2) rfl (by kernel_rfl)) rfl ?_) | refine OpsE.no rfl rfl rfl ?_ | refine OpsE.off rfl rfl rfl ?_
    first | (refine OpsE.yes rfl rfl ?_; refine OpsE.ev (Ev.load H rfl (by kernel_rfl) (by first | exact Rd.mk m0 rfl | exact Rd.mk m1 rfl | exact Rd.mk m2 rfl | exact Rd.mk m3 rfl | assumption)) rfl ?_) | refine OpsE.no rfl rfl rfl ?_ | refine OpsE.off rfl rfl rfl ?_
    first | (refine OpsE.yes rfl rfl ?_; refine OpsE.ev (Ev.ifNilNe rfl Tryz.underlying26) rfl ?_) | refine OpsE.no rfl rfl rfl ?_ | refine OpsE.off rfl rfl rfl ?_
    refine OpsE.ev ((by first | exact Ev.pickT rfl rfl | exact Ev.pickF rfl rfl)) rfl ?_
    refine OpsE.ev (Ev.assign rfl) rfl ?_
    refine OpsE.nil ?_
    repeat (first | refine .seq ?_ | refine .skip ?_ | refine .block ?_ | refine .inBlock ?_ | refine .yes rfl ?_ | refine .no rfl ?_ | refine .exit rfl ?_)
    exact RunsE.ret1 Tryz.func67 rfl rfl ⟨by simp, H⟩

theorem rest_spec [Strm] (b : Nat) (v : Value) (line : List UInt8) (k e : Nat) (hk : k ≤ line.length) (hl : line.length ≤ 1000000) (w : World) (F : List (Nat × Obj)) (hv : Inp F v line) (H : SL w ((b, rdO v k e) :: F)) :
    Does Tryz.prog 69 #[.pointer (some ⟨b, 0, none⟩)] w fun r w' => Inp F r (line.drop k) ∧ SL w' ((b, rdO v k e) :: F) := by
  obtain ⟨a, c, rfl, hc⟩ := hv.len
  refine Does.intro (args := [_]) (e := [(0, _)]) Tryz.func69 rfl Tryz.ntmps69 rfl rfl ?_
  repeat (first | refine .seq ?_ | refine .skip ?_ | refine .block ?_ | refine .inBlock ?_ | refine .yes rfl ?_ | refine .no rfl ?_ | refine .exit rfl ?_)
  repeat (first | refine .seq ?_ | refine .skip ?_ | refine .block ?_ | refine .inBlock ?_ | refine .yes rfl ?_ | refine .no rfl ?_ | refine .exit rfl ?_)
  refine RunsE.region ?_
  refine OpsE.ev (Ev.assign rfl) rfl ?_
  refine OpsE.nil ?_
  repeat (first | refine .seq ?_ | refine .skip ?_ | refine .block ?_ | refine .inBlock ?_ | refine .yes rfl ?_ | refine .no rfl ?_ | refine .exit rfl ?_)
  refine RunsE.drawS H [] (by kernel_rfl) ?_; (try clear H); intro w H
  refine OpsD.take 0 rfl (by kernel_rfl) H (fun w H => Ev.move rfl) rfl ?_
  refine OpsD.take 1 rfl (by kernel_rfl) H (fun w H => Ev.nilCheck rfl) rfl ?_
  refine OpsD.take 2 rfl (by kernel_rfl) H (fun w H => Ev.fieldAddr (o := 0) rfl (by kernel_rfl)) rfl ?_
  refine OpsD.take 3 rfl (by kernel_rfl) H (fun w H => Ev.load H rfl (by kernel_rfl) (by first | exact Rd.mk m0 rfl | exact Rd.mk m1 rfl | exact Rd.mk m2 rfl | exact Rd.mk m3 rfl | assumption)) rfl ?_
  refine OpsD.take 4 rfl (by kernel_rfl) H (fun w H => Ev.move rfl) rfl ?_
  refine OpsD.take 5 rfl (by kernel_rfl) H (fun w H => Ev.nilCheck rfl) rfl ?_
  refine OpsD.take 6 rfl (by kernel_rfl) H (fun w H => Ev.fieldAddr (o := 1) rfl (by kernel_rfl)) rfl ?_
  refine OpsD.take 7 rfl (by kernel_rfl) H (fun w H => Ev.load H rfl (by kernel_rfl) (by first | exact Rd.mk m0 rfl | exact Rd.mk m1 rfl | exact Rd.mk m2 rfl | exact Rd.mk m3 rfl | assumption)) rfl ?_
  refine OpsD.take 8 rfl (by kernel_rfl) H (fun w H => Ev.slSl (el := 5) (sz := 1) (l := k) rfl (by kernel_rfl) (⟨_, rfl⟩) (rfl) (by omega) (by omega)) rfl ?_
  refine OpsD.take 9 rfl (by kernel_rfl) H (fun w H => Ev.assign rfl) rfl ?_
  refine OpsD.done (by kernel_rfl) ?_
  repeat (first | refine .seq ?_ | refine .skip ?_ | refine .block ?_ | refine .inBlock ?_ | refine .yes rfl ?_ | refine .no rfl ?_ | refine .exit rfl ?_)
  exact RunsE.ret1 Tryz.func69 rfl rfl ⟨hv.drop hk, H⟩

theorem fail_spec [Strm] (b : Nat) (v : Value) (k n : Nat) (w : World) (F : List (Nat × Obj)) (H : SL w ((b, rdO v k 0) :: F)) :
    Does Tryz.prog 70 #[.pointer (some ⟨b, 0, none⟩), EV n] w fun r w' => r = .tuple #[] ∧ SL w' ((b, rdO v k n) :: F) := by
  refine Does.intro (args := [_, _]) (e := [(0, _), (1, _)]) Tryz.func70 rfl Tryz.ntmps70 rfl rfl ?_
  repeat (first | refine .seq ?_ | refine .skip ?_ | refine .block ?_ | refine .inBlock ?_ | refine .yes rfl ?_ | refine .no rfl ?_ | refine .exit rfl ?_)
  repeat (first | refine .seq ?_ | refine .skip ?_ | refine .block ?_ | refine .inBlock ?_ | refine .yes rfl ?_ | refine .no rfl ?_ | refine .exit rfl ?_)
  refine RunsE.region ?_
  refine OpsE.ev (Ev.move rfl) rfl ?_
  refine OpsE.ev (Ev.nilCheck rfl) rfl ?_
  refine OpsE.ev (Ev.fieldAddr (o := 2) rfl (by kernel_rfl)) rfl ?_
  refine OpsE.ev (Ev.load H rfl (by kernel_rfl) (by first | exact Rd.mk m0 rfl | exact Rd.mk m1 rfl | exact Rd.mk m2 rfl | exact Rd.mk m3 rfl | assumption)) rfl ?_
  refine OpsE.ev (Ev.ifNilEqT rfl Tryz.underlying26) rfl ?_
  refine OpsE.nil ?_
  repeat (first | refine .seq ?_ | refine .skip ?_ | refine .block ?_ | refine .inBlock ?_ | refine .yes rfl ?_ | refine .no rfl ?_ | refine .exit rfl ?_)
  repeat (first | refine .seq ?_ | refine .skip ?_ | refine .block ?_ | refine .inBlock ?_ | refine .yes rfl ?_ | refine .no rfl ?_ | refine .exit rfl ?_)
  refine RunsE.region ?_
  refine OpsE.ev (Ev.move rfl) rfl ?_
  refine OpsE.ev (Ev.move rfl) rfl ?_
  refine OpsE.ev (Ev.nilCheck rfl) rfl ?_
  refine OpsE.ev (Ev.fieldAddr (o := 2) rfl (by kernel_rfl)) rfl ?_
  refine OpsE.exn (Ex.store1 H rfl rfl (by kernel_rfl) (by cases n <;> rfl) u0 (by simp) (Thaw.zero _ _) rfl) ?_; (try clear H); intro _ w H
  refine OpsE.nil ?_
  repeat (first | refine .seq ?_ | refine .skip ?_ | refine .block ?_ | refine .inBlock ?_ | refine .yes rfl ?_ | refine .no rfl ?_ | refine .exit rfl ?_)
  exact RunsE.end0 Tryz.func70 rfl ⟨rfl, H⟩

set_option maxHeartbeats 1000000 in
theorem low_spec [Strm] (b : Nat) (v : Value) (line : List UInt8) (k many : Nat) (hm : many ≤ 8) (hk : k < line.length) (hl : line.length ≤ 1000000) (w : World) (F : List (Nat × Obj)) (hv : Inp F v line) (H : SL w ((b, rdO v k 0) :: F)) :
    Does Tryz.prog 95 #[.pointer (some ⟨b, 0, none⟩), .int .i64 (many : Int), .int .u8 0] w fun r w' => r = .tuple #[.int .u64 ((lowM (line.drop (k + 1)) many).2 : Int), EV (lowM (line.drop (k + 1)) many).1] ∧ SL w' ((b, rdO v k 0) :: F) := by
  refine Does.intro (args := [_, _, _]) (e := [(0, _), (1, _), (2, _)]) Tryz.func95 rfl Tryz.ntmps95 rfl rfl ?_
  repeat (first | refine .seq ?_ | refine .skip ?_ | refine .block ?_ | refine .inBlock ?_ | refine .yes rfl ?_ | refine .no rfl ?_ | refine .exit rfl ?_)
  repeat (first | refine .seq ?_ | refine .skip ?_ | refine .block ?_ | refine .inBlock ?_ | refine .yes rfl ?_ | refine .no rfl ?_ | refine .exit rfl ?_)
  refine RunsE.region ?_
  refine OpsE.ev (Ev.assign rfl) rfl ?_
  refine OpsE.ev (Ev.assign rfl) rfl ?_
  refine OpsE.nil ?_
  obtain ⟨r, hr⟩ : ∃ r, r = line.drop (k + 1) := ⟨_, rfl⟩
  have hrl : r.length ≤ 1000000 := by rw [hr, List.length_drop]; omega
  rw [← hr]
  repeat refine RunsE.seq ?_
  refine RunsE.join (fun s : Option Addr × Nat => [(0, .pointer (some ⟨b, 0, none⟩)), (1, .int .i64 (many : Int)), (2, .int .u8 0), (8, .slice s.1 r.length s.2)])
    (fun s w => Inp F (.slice s.1 r.length s.2) r ∧ r.length ≤ s.2 ∧ SL w ((b, rdO v k 0) :: F)) (fun next => ?_) ?_
  ·
    repeat (first | refine .seq ?_ | refine .skip ?_ | refine .block ?_ | refine .inBlock ?_ | refine .yes rfl ?_ | refine .no rfl ?_ | refine .exit rfl ?_)
    refine RunsE.region ?_
    refine OpsE.ev (Ev.move rfl) rfl ?_
    refine OpsE.ex (Ex.call rfl Tryz.call69 (rest_spec b v line k 0 (by omega) hl w F hv H)) rfl ?_; (try clear H); rintro u w ⟨hu, H⟩; obtain ⟨a1, c1, rfl, hc1⟩ := hu.len; have hll : (line.drop k).length = line.length - k := List.length_drop
    refine OpsE.ev (Ev.slSl (el := 5) (sz := 1) (l := 1) rfl (by kernel_rfl) (⟨_, rfl⟩) (rfl) (by omega) (by omega)) rfl ?_
    refine OpsE.ev (Ev.assign rfl) rfl ?_
    refine OpsE.nil ?_
    have h2 := hu.drop (k := 1) (by omega)
    rw [List.drop_drop, ← hr] at h2
    obtain ⟨a2, c2, e2, hc2⟩ := h2.len
    rw [e2] at h2
    exact next (a2, c2) _ _ ⟨h2, hc2, H⟩ ⟨rfl, rfl, rfl, congrArg some e2, trivial⟩
  clear H hv hr hk
  rintro ⟨a, c⟩ w ⟨hin, hc, H⟩
  simp only at hin hc
  by_cases h1 : r.length < many
  ·
    repeat (first | refine .seq ?_ | refine .skip ?_ | refine .block ?_ | refine .inBlock ?_ | refine .yes rfl ?_ | refine .no rfl ?_ | refine .exit rfl ?_)
    refine RunsE.region ?_
    refine OpsE.ev (Ev.move rfl) rfl ?_
    refine OpsE.ev (Ev.lenSl (d := 5) rfl rfl (by kernel_rfl)) rfl ?_
    refine OpsE.ev (Ev.move rfl) rfl ?_
    refine OpsE.ev (Ev.lss (r := true) rfl rfl (decide_eq_true (by omega))) rfl ?_
    refine OpsE.nil ?_
    repeat (first | refine .seq ?_ | refine .skip ?_ | refine .block ?_ | refine .inBlock ?_ | refine .yes rfl ?_ | refine .no rfl ?_ | refine .exit rfl ?_)
    repeat (first | refine .seq ?_ | refine .skip ?_ | refine .block ?_ | refine .inBlock ?_ | refine .yes rfl ?_ | refine .no rfl ?_ | refine .exit rfl ?_)
    refine RunsE.region ?_
    refine OpsE.ev (Ev.makeInterface (d := (.int .i64)) rfl (by kernel_rfl) rfl) rfl ?_
    refine OpsE.ev (Ev.assign rfl) rfl ?_
    refine OpsE.ev (Ev.assign rfl) rfl ?_
    refine OpsE.nil ?_
    repeat (first | refine .seq ?_ | refine .skip ?_ | refine .block ?_ | refine .inBlock ?_ | refine .yes rfl ?_ | refine .no rfl ?_ | refine .exit rfl ?_)
    exact RunsE.ret2 Tryz.func95 rfl rfl rfl ⟨by rw [lowM, if_pos h1]; rfl, H⟩
  repeat (first | refine .seq ?_ | refine .skip ?_ | refine .block ?_ | refine .inBlock ?_ | refine .yes rfl ?_ | refine .no rfl ?_ | refine .exit rfl ?_)
  refine RunsE.region ?_
  refine OpsE.ev (Ev.move rfl) rfl ?_
  refine OpsE.ev (Ev.lenSl (d := 5) rfl rfl (by kernel_rfl)) rfl ?_
  refine OpsE.ev (Ev.move rfl) rfl ?_
  refine OpsE.ev (Ev.lss (r := false) rfl rfl (decide_eq_false (by omega))) rfl ?_
  refine OpsE.nil ?_
  repeat (first | refine .seq ?_ | refine .skip ?_ | refine .block ?_ | refine .inBlock ?_ | refine .yes rfl ?_ | refine .no rfl ?_ | refine .exit rfl ?_)
  repeat refine RunsE.seq ?_
  refine RunsE.join (fun _ : Unit => [(0, .pointer (some ⟨b, 0, none⟩)), (1, .int .i64 (many : Int)), (2, .int .u8 0), (8, .slice a r.length c), (28, .bool (decide (0 < many ∧ r.head? = some 0)))])
    (fun _ w => SL w ((b, rdO v k 0) :: F)) (fun next => ?_) ?_
  · by_cases h2 : 0 < many
    · obtain ⟨b8, o8, rfl, hr8⟩ := hin.atI (i := 0) (by omega)
      have e1 : (r.head? = some 0) ↔ (r.getD 0 0).toNat = 0 := by
        cases r with
        | nil => simp at h1; omega
        | cons x r =>
          simp only [List.head?_cons, Option.some.injEq, List.getD_cons_zero]
          exact ⟨fun h => by rw [h]; rfl, fun h => UInt8.toNat_inj.1 (by simpa using h)⟩
      repeat (first | refine .seq ?_ | refine .skip ?_ | refine .block ?_ | refine .inBlock ?_ | refine .yes rfl ?_ | refine .no rfl ?_ | refine .exit rfl ?_)
      refine RunsE.region ?_
      refine OpsE.ev (Ev.move rfl) rfl ?_
      refine OpsE.ev (Ev.gtr (r := true) rfl rfl (decide_eq_true (by omega))) rfl ?_
      refine OpsE.ev (Ev.move rfl) rfl ?_
      first | (refine OpsE.yes rfl rfl ?_; refine OpsE.ev (Ev.move rfl) rfl ?_) | refine OpsE.no rfl rfl rfl ?_ | refine OpsE.off rfl rfl rfl ?_
      first | (refine OpsE.yes rfl rfl ?_; refine OpsE.ev (Ev.iaSl (n := 5) (sz := 1) (m := 0) (o := o8 + 0) rfl rfl rfl (by kernel_rfl) (by omega) (by rw [Nat.mul_one])) rfl ?_) | refine OpsE.no rfl rfl rfl ?_ | refine OpsE.off rfl rfl rfl ?_
      first | (refine OpsE.yes rfl rfl ?_; refine OpsE.ev (Ev.load (v := BV (r.getD 0 0)) H rfl (by kernel_rfl) hr8.tail) rfl ?_) | refine OpsE.no rfl rfl rfl ?_ | refine OpsE.off rfl rfl rfl ?_
      first | (refine OpsE.yes rfl rfl ?_; refine OpsE.ev (Ev.move rfl) rfl ?_) | refine OpsE.no rfl rfl rfl ?_ | refine OpsE.off rfl rfl rfl ?_
      first | (refine OpsE.yes rfl rfl ?_; refine OpsE.ev (Ev.eql (r := decide ((r.getD 0 0).toNat = 0)) rfl rfl (by rw [Bool.eq_iff_iff, beq_iff_eq, decide_eq_true_iff]; omega)) rfl ?_) | refine OpsE.no rfl rfl rfl ?_ | refine OpsE.off rfl rfl rfl ?_
      refine OpsE.ev ((by first | exact Ev.pickT rfl rfl | exact Ev.pickF rfl rfl)) rfl ?_
      refine OpsE.nil ?_
      refine next () _ _ H ⟨rfl, rfl, rfl, rfl, congrArg (fun x => some (Value.bool x)) ?_, trivial⟩
      rw [Bool.eq_iff_iff, decide_eq_true_iff, decide_eq_true_iff, e1]
      exact ⟨fun h => ⟨h2, h⟩, fun h => h.2⟩
    ·
      repeat (first | refine .seq ?_ | refine .skip ?_ | refine .block ?_ | refine .inBlock ?_ | refine .yes rfl ?_ | refine .no rfl ?_ | refine .exit rfl ?_)
      refine RunsE.region ?_
      refine OpsE.ev (Ev.move rfl) rfl ?_
      refine OpsE.ev (Ev.gtr (r := false) rfl rfl (decide_eq_false (by omega))) rfl ?_
      refine OpsE.ev (Ev.move rfl) rfl ?_
      first | (refine OpsE.yes rfl rfl ?_; refine OpsE.ev (Ev.move rfl) rfl ?_) | refine OpsE.no rfl rfl rfl ?_ | refine OpsE.off rfl rfl rfl ?_
      first | (refine OpsE.yes rfl rfl ?_; refine OpsE.ev (Ev.iaSl (n := 5) (sz := 1) (m := 0) rfl rfl rfl (by kernel_rfl) (by omega)) rfl ?_) | refine OpsE.no rfl rfl rfl ?_ | refine OpsE.off rfl rfl rfl ?_
      first | (refine OpsE.yes rfl rfl ?_; refine OpsE.ev (Ev.load H rfl (by kernel_rfl) (by first | exact Rd.mk m0 rfl | exact Rd.mk m1 rfl | exact Rd.mk m2 rfl | exact Rd.mk m3 rfl | assumption)) rfl ?_) | refine OpsE.no rfl rfl rfl ?_ | refine OpsE.off rfl rfl rfl ?_
      first | (refine OpsE.yes rfl rfl ?_; refine OpsE.ev (Ev.move rfl) rfl ?_) | refine OpsE.no rfl rfl rfl ?_ | refine OpsE.off rfl rfl rfl ?_
      first | (refine OpsE.yes rfl rfl ?_; refine OpsE.ev (Ev.eql rfl rfl) rfl ?_) | refine OpsE.no rfl rfl rfl ?_ | refine OpsE.off rfl rfl rfl ?_
      refine OpsE.ev ((by first | exact Ev.pickT rfl rfl | exact Ev.pickF rfl rfl)) rfl ?_
      refine OpsE.nil ?_
      refine next () _ _ H ⟨rfl, rfl, rfl, rfl, congrArg (fun x => some (Value.bool x)) ?_, trivial⟩
      exact (decide_eq_false (fun h => h2 h.1)).symm
  clear H
  rintro _ w H
  by_cases h3 : 0 < many ∧ r.head? = some 0
  · repeat refine RunsE.seq ?_
    refine RunsE.yes (by rw [decide_eq_true h3]; rfl) ?_
    repeat (first | refine .seq ?_ | refine .skip ?_ | refine .block ?_ | refine .inBlock ?_ | refine .yes rfl ?_ | refine .no rfl ?_ | refine .exit rfl ?_)
    refine RunsE.region ?_
    refine OpsE.ev (Ev.makeInterface (d := (.int .i64)) rfl (by kernel_rfl) rfl) rfl ?_
    refine OpsE.ev (Ev.assign rfl) rfl ?_
    refine OpsE.ev (Ev.assign rfl) rfl ?_
    refine OpsE.nil ?_
    repeat (first | refine .seq ?_ | refine .skip ?_ | refine .block ?_ | refine .inBlock ?_ | refine .yes rfl ?_ | refine .no rfl ?_ | refine .exit rfl ?_)
    exact RunsE.ret2 Tryz.func95 rfl rfl rfl ⟨by rw [lowM, if_neg h1, if_pos h3]; rfl, H⟩
  repeat refine RunsE.seq ?_
  refine RunsE.no (by rw [decide_eq_false h3]; rfl) ?_
  repeat (first | refine .seq ?_ | refine .skip ?_ | refine .block ?_ | refine .inBlock ?_ | refine .yes rfl ?_ | refine .no rfl ?_ | refine .exit rfl ?_)
  refine RunsE.region ?_
  refine OpsE.ev (Ev.assign rfl) rfl ?_
  refine OpsE.nil ?_
  repeat (first | refine .seq ?_ | refine .skip ?_ | refine .block ?_ | refine .inBlock ?_ | refine .yes rfl ?_ | refine .no rfl ?_ | refine .exit rfl ?_)
  refine RunsE.region ?_
  refine OpsE.ev (Ev.move rfl) rfl ?_
  refine OpsE.ev (Ev.move rfl) rfl ?_
  refine OpsE.ev (Ev.slSl (el := 5) (sz := 1) (h := many) rfl (by kernel_rfl) (rfl) (⟨_, rfl⟩) (by omega) (by omega)) rfl ?_
  refine OpsE.ev (Ev.lenSl (d := 5) rfl rfl (by kernel_rfl)) rfl ?_
  refine OpsE.ev (Ev.move rfl) rfl ?_
  refine OpsE.nil ?_
  have h4 := hin.take (k := many) (by omega)
  obtain ⟨a4, c4, e4, hc4⟩ := h4.len
  rw [e4] at h4
  have hlt : (r.take many).length = many := by rw [List.length_take]; omega
  rw [hlt] at e4 h4
  repeat refine RunsE.seq ?_
  refine RunsE.join (fun _ : Unit => [(9, .int .u64 (be (r.take many) : Int))]) (fun _ w => SL w ((b, rdO v k 0) :: F)) (fun next => ?_) ?_
  · refine RunsE.block ?_
    refine RunsE.loop (fun i : Nat => [(2, .int .u8 0), (9, .int .u64 (be (r.take i) : Int)), (32, .slice a4 many c4), (33, .int .i64 (many : Int)), (34, .int .i64 (i : Int))])
      (fun i w => i ≤ many ∧ SL w ((b, rdO v k 0) :: F)) (fun i => many - i) 0 ⟨rfl, rfl, congrArg some e4, rfl, rfl, trivial⟩ ⟨by omega, H⟩ ?_
    clear H
    rintro i w ⟨hi, H⟩ nextL
    by_cases h5 : i = many
    ·
      repeat (first | refine .seq ?_ | refine .skip ?_ | refine .block ?_ | refine .inBlock ?_ | refine .yes rfl ?_ | refine .no rfl ?_ | refine .exit rfl ?_)
      refine RunsE.region ?_
      refine OpsE.ev (Ev.lss (r := false) rfl rfl (decide_eq_false (by omega))) rfl ?_
      refine OpsE.nil ?_
      repeat refine RunsE.seq ?_
      refine RunsE.no rfl ?_
      refine RunsE.exit rfl ?_
      exact next () _ _ H ⟨by rw [h5]; rfl, trivial⟩
    · clear next
      obtain ⟨b4, o4, rfl, hr4⟩ := h4.atI (i := i) (by omega)
      have hg : (r.take many).getD i 0 = r.getD i 0 := by
        simp only [List.getD_eq_getElem?_getD, List.getElem?_take]
        rw [if_pos (by omega)]
      rw [hg] at hr4
      have hbe := be_lt (r.take i)
      have hti : (r.take i).length = i := by rw [List.length_take]; omega
      rw [hti] at hbe
      have hbe2 : be (r.take i) < 72057594037927936 := Nat.lt_of_lt_of_le hbe (Nat.le_trans (Nat.pow_le_pow_right (by decide) (by omega : i ≤ 7)) (by decide))
      have hcb := (r.getD i 0).toNat_lt
      repeat (first | refine .seq ?_ | refine .skip ?_ | refine .block ?_ | refine .inBlock ?_ | refine .yes rfl ?_ | refine .no rfl ?_ | refine .exit rfl ?_)
      refine RunsE.region ?_
      refine OpsE.ev (Ev.lss (r := true) rfl rfl (decide_eq_true (by omega))) rfl ?_
      refine OpsE.nil ?_
      repeat (first | refine .seq ?_ | refine .skip ?_ | refine .block ?_ | refine .inBlock ?_ | refine .yes rfl ?_ | refine .no rfl ?_ | refine .exit rfl ?_)
      repeat (first | refine .seq ?_ | refine .skip ?_ | refine .block ?_ | refine .inBlock ?_ | refine .yes rfl ?_ | refine .no rfl ?_ | refine .exit rfl ?_)
      refine RunsE.region ?_
      refine OpsE.ev (Ev.iaSl (n := 5) (sz := 1) (m := i) (o := o4 + i) rfl rfl rfl (by kernel_rfl) (by omega) (by rw [Nat.mul_one])) rfl ?_
      refine OpsE.ev (Ev.load (v := BV (r.getD i 0)) H rfl (by kernel_rfl) hr4.tail) rfl ?_
      refine OpsE.ev (Ev.assign rfl) rfl ?_
      refine OpsE.nil ?_
      repeat (first | refine .seq ?_ | refine .skip ?_ | refine .block ?_ | refine .inBlock ?_ | refine .yes rfl ?_ | refine .no rfl ?_ | refine .exit rfl ?_)
      refine RunsE.region ?_
      refine OpsE.ev (Ev.move rfl) rfl ?_
      refine OpsE.ev (Ev.shl (c := ((256 * be (r.take i) : Nat) : Int)) rfl rfl (by omega) (by rw [show (2 ^ (min (8 : Int).toNat IntKind.u64.bits) : Int) = 256 by decide]; rw [qu64 (by omega) (by omega)]; omega)) rfl ?_
      refine OpsE.ev (Ev.move rfl) rfl ?_
      refine OpsE.ev (Ev.move rfl) rfl ?_
      refine OpsE.ev (Ev.xor (c := ((r.getD i 0).toNat : Int)) rfl rfl (xor0u _)) rfl ?_
      refine OpsE.ev (Ev.conv (c := ((r.getD i 0).toNat : Int)) (k' := .u64) rfl (by kernel_rfl) (by kernel_rfl) (qu64 (by omega) (by omega))) rfl ?_
      refine OpsE.ev (Ev.or (c := ((be (r.take (i + 1)) : Nat) : Int)) rfl rfl (by rw [or256 _ _ hbe2 (by omega), take_succD (d := 0) (by omega), be_snoc])) rfl ?_
      refine OpsE.ev (Ev.assign rfl) rfl ?_
      refine OpsE.nil ?_
      repeat (first | refine .seq ?_ | refine .skip ?_ | refine .block ?_ | refine .inBlock ?_ | refine .yes rfl ?_ | refine .no rfl ?_ | refine .exit rfl ?_)
      refine RunsE.region ?_
      refine OpsE.ev (Ev.add rfl rfl) rfl ?_
      refine OpsE.ev (Ev.move rfl) rfl ?_
      refine OpsE.nil ?_
      exact nextL (i + 1) _ _ (by omega) ⟨by omega, H⟩ ⟨rfl, rfl, rfl, rfl, rfl, trivial⟩
  · clear H
    rintro _ w H
    repeat (first | refine .seq ?_ | refine .skip ?_ | refine .block ?_ | refine .inBlock ?_ | refine .yes rfl ?_ | refine .no rfl ?_ | refine .exit rfl ?_)
    refine RunsE.region ?_
    refine OpsE.ev (Ev.move rfl) rfl ?_
    refine OpsE.ev (Ev.assign rfl) rfl ?_
    refine OpsE.ev (Ev.assign rfl) rfl ?_
    refine OpsE.nil ?_
    repeat (first | refine .seq ?_ | refine .skip ?_ | refine .block ?_ | refine .inBlock ?_ | refine .yes rfl ?_ | refine .no rfl ?_ | refine .exit rfl ?_)
    exact RunsE.ret2 Tryz.func95 rfl rfl rfl ⟨by rw [lowM, if_neg h1, if_neg h3]; rfl, H⟩

set_option maxHeartbeats 1000000 in
theorem number_spec [Strm] (b : Nat) (v : Value) (line : List UInt8) (k most : Nat) (hk : k ≤ line.length) (hl : line.length ≤ 1000000) (w : World) (F : List (Nat × Obj)) (hv : Inp F v line) (H : SL w ((b, rdO v k 0) :: F)) :
    Does Tryz.prog 68 #[.pointer (some ⟨b, 0, none⟩), .int .u64 (most : Int)] w fun r w' =>
      r = .tuple #[.int .u64 ((numM (line.drop k) most).2.1 : Int), .int .i64 ((numM (line.drop k) most).2.2 : Int), .bool (decide ((numM (line.drop k) most).1 = 0))] ∧ SL w' ((b, rdO v k (numM (line.drop k) most).1) :: F) := by
  refine Does.intro (args := [_, _]) (e := [(0, _), (1, _)]) Tryz.func68 rfl Tryz.ntmps68 rfl rfl ?_
  repeat (first | refine .seq ?_ | refine .skip ?_ | refine .block ?_ | refine .inBlock ?_ | refine .yes rfl ?_ | refine .no rfl ?_ | refine .exit rfl ?_)
  repeat (first | refine .seq ?_ | refine .skip ?_ | refine .block ?_ | refine .inBlock ?_ | refine .yes rfl ?_ | refine .no rfl ?_ | refine .exit rfl ?_)
  refine RunsE.region ?_
  refine OpsE.ev (Ev.assign rfl) rfl ?_
  refine OpsE.ev (Ev.assign rfl) rfl ?_
  refine OpsE.ev (Ev.assign rfl) rfl ?_
  refine OpsE.nil ?_
  have hll : (line.drop k).length = line.length - k := List.length_drop
  repeat (first | refine .seq ?_ | refine .skip ?_ | refine .block ?_ | refine .inBlock ?_ | refine .yes rfl ?_ | refine .no rfl ?_ | refine .exit rfl ?_)
  refine RunsE.region ?_
  refine OpsE.ev (Ev.move rfl) rfl ?_
  refine OpsE.ex (Ex.call rfl Tryz.call69 (rest_spec b v line k 0 (by omega) hl w F hv H)) rfl ?_; (try clear H); rintro u w ⟨hu, H⟩; obtain ⟨a1, c1, rfl, hc1⟩ := hu.len
  refine OpsE.ev (Ev.assign rfl) rfl ?_
  refine OpsE.nil ?_
  by_cases h1 : line.length = k
  · have e0 : line.drop k = [] := List.eq_nil_of_length_eq_zero (by omega)
    repeat (first | refine .seq ?_ | refine .skip ?_ | refine .block ?_ | refine .inBlock ?_ | refine .yes rfl ?_ | refine .no rfl ?_ | refine .exit rfl ?_)
    refine RunsE.region ?_
    refine OpsE.ev (Ev.move rfl) rfl ?_
    refine OpsE.ev (Ev.lenSl (d := 5) rfl rfl (by kernel_rfl)) rfl ?_
    refine OpsE.ev (Ev.eql (r := true) rfl rfl (beq_iff_eq.2 (by omega))) rfl ?_
    refine OpsE.ev (Ev.assign rfl) rfl ?_
    refine OpsE.nil ?_
    repeat (first | refine .seq ?_ | refine .skip ?_ | refine .block ?_ | refine .inBlock ?_ | refine .yes rfl ?_ | refine .no rfl ?_ | refine .exit rfl ?_)
    repeat (first | refine .seq ?_ | refine .skip ?_ | refine .block ?_ | refine .inBlock ?_ | refine .yes rfl ?_ | refine .no rfl ?_ | refine .exit rfl ?_)
    refine RunsE.region ?_
    refine OpsE.ev (Ev.move rfl) rfl ?_
    refine OpsE.ev (Ev.makeInterface (d := (.int .i64)) rfl (by kernel_rfl) rfl) rfl ?_
    refine OpsE.ex (Ex.call rfl Tryz.call70 (fail_spec b v k 12 w F H)) rfl ?_; (try clear H); rintro _ w ⟨rfl, H⟩
    refine OpsE.nil ?_
    repeat (first | refine .seq ?_ | refine .skip ?_ | refine .block ?_ | refine .inBlock ?_ | refine .yes rfl ?_ | refine .no rfl ?_ | refine .exit rfl ?_)
    refine RunsE.region ?_
    refine OpsE.ev (Ev.assign rfl) rfl ?_
    refine OpsE.ev (Ev.assign rfl) rfl ?_
    refine OpsE.ev (Ev.assign rfl) rfl ?_
    refine OpsE.nil ?_
    repeat (first | refine .seq ?_ | refine .skip ?_ | refine .block ?_ | refine .inBlock ?_ | refine .yes rfl ?_ | refine .no rfl ?_ | refine .exit rfl ?_)
    refine RunsE.ret3 Tryz.func68 rfl rfl rfl rfl ?_
    rw [e0]
    exact ⟨rfl, H⟩
  have e0 : line.drop k = line.getD k 0 :: line.drop (k + 1) := drop_consD (by omega)
  obtain ⟨c, hc⟩ : ∃ c, c = line.getD k 0 := ⟨_, rfl⟩
  rw [← hc] at e0
  have hcb := c.toNat_lt
  obtain ⟨b8, o8, rfl, hr8⟩ := hu.atI (i := 0) (by omega)
  have e1 : (line.drop k).getD 0 0 = c := by rw [e0]; rfl
  rw [e1] at hr8
  repeat refine RunsE.seq ?_
  refine RunsE.join (fun _ : Unit => [(0, .pointer (some ⟨b, 0, none⟩)), (1, .int .u64 (most : Int)), (7, .slice (some ⟨b8, o8, none⟩) (line.drop k).length c1)])
    (fun _ w => ¬ 8 < c.toNat ∧ SL w ((b, rdO v k 0) :: F)) (fun next => ?_) ?_
  ·
    repeat (first | refine .seq ?_ | refine .skip ?_ | refine .block ?_ | refine .inBlock ?_ | refine .yes rfl ?_ | refine .no rfl ?_ | refine .exit rfl ?_)
    refine RunsE.region ?_
    refine OpsE.ev (Ev.move rfl) rfl ?_
    refine OpsE.ev (Ev.lenSl (d := 5) rfl rfl (by kernel_rfl)) rfl ?_
    refine OpsE.ev (Ev.eql (r := false) rfl rfl (beq_eq_false_iff_ne.2 (by omega))) rfl ?_
    refine OpsE.ev (Ev.assign rfl) rfl ?_
    refine OpsE.nil ?_
    repeat (first | refine .seq ?_ | refine .skip ?_ | refine .block ?_ | refine .inBlock ?_ | refine .yes rfl ?_ | refine .no rfl ?_ | refine .exit rfl ?_)
    by_cases h2 : 8 < c.toNat
    ·
      repeat (first | refine .seq ?_ | refine .skip ?_ | refine .block ?_ | refine .inBlock ?_ | refine .yes rfl ?_ | refine .no rfl ?_ | refine .exit rfl ?_)
      refine RunsE.region ?_
      refine OpsE.ev (Ev.move rfl) rfl ?_
      refine OpsE.ev (Ev.iaSl (n := 5) (sz := 1) (m := 0) (o := o8 + 0) rfl rfl rfl (by kernel_rfl) (by omega) (by rw [Nat.mul_one])) rfl ?_
      refine OpsE.ev (Ev.load (v := BV c) H rfl (by kernel_rfl) hr8.tail) rfl ?_
      refine OpsE.ev (Ev.gtr (r := true) rfl rfl (decide_eq_true (by omega))) rfl ?_
      refine OpsE.ev (Ev.assign rfl) rfl ?_
      refine OpsE.nil ?_
      repeat (first | refine .seq ?_ | refine .skip ?_ | refine .block ?_ | refine .inBlock ?_ | refine .yes rfl ?_ | refine .no rfl ?_ | refine .exit rfl ?_)
      repeat (first | refine .seq ?_ | refine .skip ?_ | refine .block ?_ | refine .inBlock ?_ | refine .yes rfl ?_ | refine .no rfl ?_ | refine .exit rfl ?_)
      refine RunsE.region ?_
      refine OpsE.ev (Ev.move rfl) rfl ?_
      refine OpsE.ev (Ev.makeInterface (d := (.int .i64)) rfl (by kernel_rfl) rfl) rfl ?_
      refine OpsE.ex (Ex.call rfl Tryz.call70 (fail_spec b v k 3 w F H)) rfl ?_; (try clear H); rintro _ w ⟨rfl, H⟩
      refine OpsE.nil ?_
      repeat (first | refine .seq ?_ | refine .skip ?_ | refine .block ?_ | refine .inBlock ?_ | refine .yes rfl ?_ | refine .no rfl ?_ | refine .exit rfl ?_)
      refine RunsE.region ?_
      refine OpsE.ev (Ev.assign rfl) rfl ?_
      refine OpsE.ev (Ev.assign rfl) rfl ?_
      refine OpsE.ev (Ev.assign rfl) rfl ?_
      refine OpsE.nil ?_
      repeat (first | refine .seq ?_ | refine .skip ?_ | refine .block ?_ | refine .inBlock ?_ | refine .yes rfl ?_ | refine .no rfl ?_ | refine .exit rfl ?_)
      refine RunsE.ret3 Tryz.func68 rfl rfl rfl rfl ?_
      rw [e0, numM_3 h2]
      exact ⟨rfl, H⟩
    ·
      repeat (first | refine .seq ?_ | refine .skip ?_ | refine .block ?_ | refine .inBlock ?_ | refine .yes rfl ?_ | refine .no rfl ?_ | refine .exit rfl ?_)
      refine RunsE.region ?_
      refine OpsE.ev (Ev.move rfl) rfl ?_
      refine OpsE.ev (Ev.iaSl (n := 5) (sz := 1) (m := 0) (o := o8 + 0) rfl rfl rfl (by kernel_rfl) (by omega) (by rw [Nat.mul_one])) rfl ?_
      refine OpsE.ev (Ev.load (v := BV c) H rfl (by kernel_rfl) hr8.tail) rfl ?_
      refine OpsE.ev (Ev.gtr (r := false) rfl rfl (decide_eq_false (by omega))) rfl ?_
      refine OpsE.ev (Ev.assign rfl) rfl ?_
      refine OpsE.nil ?_
      repeat refine RunsE.seq ?_
      refine RunsE.no rfl ?_
      refine RunsE.skip ?_
      refine RunsE.inBlock ?_
      exact next () _ _ ⟨h2, H⟩ ⟨rfl, rfl, rfl, trivial⟩
  clear H
  rintro _ w ⟨h2, H⟩
  have hpos : 0 < (line.drop k).length := by omega
  obtain ⟨x, hx⟩ : ∃ x, x = lowM (line.drop (k + 1)) c.toNat := ⟨_, rfl⟩
  have hnum : numM (line.drop k) most = if x.1 ≠ 0 then (x.1, 0, 0) else if most < x.2 then (4, 0, 0) else (0, x.2, 1 + c.toNat) := by rw [e0, numM_low h2, ← hx]
  rw [hnum]
  have hx2 : x.2 < 18446744073709551616 := by
    rw [hx]
    unfold lowM
    split
    · decide
    · split
      · decide
      · have := be_lt ((line.drop (k + 1)).take c.toNat)
        have h4 : ((line.drop (k + 1)).take c.toNat).length ≤ 8 := by rw [List.length_take]; omega
        exact Nat.lt_of_lt_of_le this (Nat.le_trans (Nat.pow_le_pow_right (by decide) h4) (by decide))
  repeat (first | refine .seq ?_ | refine .skip ?_ | refine .block ?_ | refine .inBlock ?_ | refine .yes rfl ?_ | refine .no rfl ?_ | refine .exit rfl ?_)
  refine RunsE.region ?_
  refine OpsE.ev (Ev.move rfl) rfl ?_
  refine OpsE.ev (Ev.move rfl) rfl ?_
  refine OpsE.ev (Ev.iaSl (n := 5) (sz := 1) (m := 0) (o := o8 + 0) rfl rfl rfl (by kernel_rfl) hpos (by rw [Nat.mul_one])) rfl ?_
  refine OpsE.ev (Ev.load (v := BV c) H rfl (by kernel_rfl) hr8.tail) rfl ?_
  refine OpsE.ev (Ev.conv (c := (c.toNat : Int)) (k' := .i64) rfl (by kernel_rfl) (by kernel_rfl) (qi64 (by omega) (by omega))) rfl ?_
  refine OpsE.ex (Ex.call rfl Tryz.call95 (low_spec b v line k c.toNat (by omega) (by omega) hl w F hv H)) rfl ?_; (try clear H); rintro _ w ⟨rfl, H⟩
  refine OpsE.ev (Ev.move rfl) rfl ?_
  refine OpsE.ev (Ev.extract rfl rfl) rfl ?_
  refine OpsE.ev (Ev.extract rfl rfl) rfl ?_
  refine OpsE.ev (Ev.assign rfl) rfl ?_
  refine OpsE.ev (Ev.assign rfl) rfl ?_
  refine OpsE.nil ?_
  rw [← hx]
  repeat refine RunsE.seq ?_
  refine RunsE.join (fun _ : Unit => [(0, .pointer (some ⟨b, 0, none⟩)), (1, .int .u64 (most : Int)), (7, .slice (some ⟨b8, o8, none⟩) (line.drop k).length c1), (8, .int .u64 (x.2 : Int)), (9, EV x.1), (42, .bool (decide (x.1 = 0) && decide (most < x.2)))])
    (fun _ w => SL w ((b, rdO v k 0) :: F)) (fun next => ?_) ?_
  · obtain h3 | ⟨n, h3⟩ : x.1 = 0 ∨ ∃ n, x.1 = n + 1 := by
      rcases Nat.eq_zero_or_pos x.1 with h | h
      · exact .inl h
      · exact .inr ⟨x.1 - 1, by omega⟩
    ·
      repeat (first | refine .seq ?_ | refine .skip ?_ | refine .block ?_ | refine .inBlock ?_ | refine .yes rfl ?_ | refine .no rfl ?_ | refine .exit rfl ?_)
      refine RunsE.region ?_
      refine OpsE.ev (Ev.move rfl) rfl ?_
      refine OpsE.ev (Ev.ifNilEqT (congrArg (fun n => some (EV n)) h3) Tryz.underlying26) rfl ?_
      refine OpsE.ev (Ev.move rfl) rfl ?_
      first | (refine OpsE.yes rfl rfl ?_; refine OpsE.ev (Ev.move rfl) rfl ?_) | refine OpsE.no rfl rfl rfl ?_ | refine OpsE.off rfl rfl rfl ?_
      first | (refine OpsE.yes rfl rfl ?_; refine OpsE.ev (Ev.move rfl) rfl ?_) | refine OpsE.no rfl rfl rfl ?_ | refine OpsE.off rfl rfl rfl ?_
      first | (refine OpsE.yes rfl rfl ?_; refine OpsE.ev (Ev.gtr (r := decide (most < x.2)) rfl rfl (by rw [Bool.eq_iff_iff, decide_eq_true_iff, decide_eq_true_iff]; omega)) rfl ?_) | refine OpsE.no rfl rfl rfl ?_ | refine OpsE.off rfl rfl rfl ?_
      refine OpsE.ev ((by first | exact Ev.pickT rfl rfl | exact Ev.pickF rfl rfl)) rfl ?_
      refine OpsE.nil ?_
      exact next () _ _ H ⟨rfl, rfl, rfl, rfl, rfl, congrArg (fun r => some (Value.bool r)) (by rw [decide_eq_true h3, Bool.true_and]), trivial⟩
    ·
      repeat (first | refine .seq ?_ | refine .skip ?_ | refine .block ?_ | refine .inBlock ?_ | refine .yes rfl ?_ | refine .no rfl ?_ | refine .exit rfl ?_)
      refine RunsE.region ?_
      refine OpsE.ev (Ev.move rfl) rfl ?_
      refine OpsE.ev (Ev.ifNilEq (T := 72) (v := .int .i64 ((n + 1 : Nat) : Int)) (congrArg (fun n => some (EV n)) h3) Tryz.underlying26) rfl ?_
      refine OpsE.ev (Ev.move rfl) rfl ?_
      first | (refine OpsE.yes rfl rfl ?_; refine OpsE.ev (Ev.move rfl) rfl ?_) | refine OpsE.no rfl rfl rfl ?_ | refine OpsE.off rfl rfl rfl ?_
      first | (refine OpsE.yes rfl rfl ?_; refine OpsE.ev (Ev.move rfl) rfl ?_) | refine OpsE.no rfl rfl rfl ?_ | refine OpsE.off rfl rfl rfl ?_
      first | (refine OpsE.yes rfl rfl ?_; refine OpsE.ev (Ev.gtr rfl rfl) rfl ?_) | refine OpsE.no rfl rfl rfl ?_ | refine OpsE.off rfl rfl rfl ?_
      refine OpsE.ev ((by first | exact Ev.pickT rfl rfl | exact Ev.pickF rfl rfl)) rfl ?_
      refine OpsE.nil ?_
      exact next () _ _ H ⟨rfl, rfl, rfl, rfl, rfl, congrArg (fun r => some (Value.bool r)) (by rw [decide_eq_false (by omega), Bool.false_and]), trivial⟩
  clear H
  rintro _ w H
  repeat refine RunsE.seq ?_
  refine RunsE.join (fun _ : Unit => [(0, .pointer (some ⟨b, 0, none⟩)), (7, .slice (some ⟨b8, o8, none⟩) (line.drop k).length c1), (8, .int .u64 (x.2 : Int)), (9, EV (if x.1 ≠ 0 then x.1 else if most < x.2 then 4 else 0))])
    (fun _ w => SL w ((b, rdO v k 0) :: F)) (fun next => ?_) ?_
  · by_cases h3 : x.1 = 0
    · by_cases h4 : most < x.2
      · repeat refine RunsE.seq ?_
        refine RunsE.yes (by rw [decide_eq_true h3, decide_eq_true h4]; rfl) ?_
        repeat (first | refine .seq ?_ | refine .skip ?_ | refine .block ?_ | refine .inBlock ?_ | refine .yes rfl ?_ | refine .no rfl ?_ | refine .exit rfl ?_)
        refine RunsE.region ?_
        refine OpsE.ev (Ev.makeInterface (d := (.int .i64)) rfl (by kernel_rfl) rfl) rfl ?_
        refine OpsE.ev (Ev.assign rfl) rfl ?_
        refine OpsE.nil ?_
        exact next () _ _ H ⟨rfl, rfl, rfl, by rw [if_neg (by simpa using h3), if_pos h4]; rfl, trivial⟩
      · repeat refine RunsE.seq ?_
        refine RunsE.no (by rw [decide_eq_true h3, decide_eq_false h4]; rfl) ?_
        refine RunsE.skip ?_
        exact next () _ _ H ⟨rfl, rfl, rfl, by rw [if_neg (by simpa using h3), if_neg h4]; exact congrArg (fun n => some (EV n)) h3, trivial⟩
    · repeat refine RunsE.seq ?_
      refine RunsE.no (by rw [decide_eq_false h3]; rfl) ?_
      refine RunsE.skip ?_
      exact next () _ _ H ⟨rfl, rfl, rfl, by rw [if_pos (by simpa using h3)]; rfl, trivial⟩
  clear H
  rintro _ w H
  obtain ⟨y, hy⟩ : ∃ y, y = (if x.1 ≠ 0 then x.1 else if most < x.2 then 4 else 0) := ⟨_, rfl⟩
  rw [← hy]
  by_cases h5 : y = 0
  · have h3 : ¬ x.1 ≠ 0 := fun h => by rw [if_pos h] at hy; exact h (hy.symm.trans h5)
    have h4 : ¬ most < x.2 := fun h => by rw [if_neg h3, if_pos h] at hy; omega
    rw [h5]
    repeat (first | refine .seq ?_ | refine .skip ?_ | refine .block ?_ | refine .inBlock ?_ | refine .yes rfl ?_ | refine .no rfl ?_ | refine .exit rfl ?_)
    refine RunsE.region ?_
    refine OpsE.ev (Ev.move rfl) rfl ?_
    refine OpsE.ev (Ev.ifNilNeF rfl Tryz.underlying26) rfl ?_
    refine OpsE.nil ?_
    repeat (first | refine .seq ?_ | refine .skip ?_ | refine .block ?_ | refine .inBlock ?_ | refine .yes rfl ?_ | refine .no rfl ?_ | refine .exit rfl ?_)
    repeat (first | refine .seq ?_ | refine .skip ?_ | refine .block ?_ | refine .inBlock ?_ | refine .yes rfl ?_ | refine .no rfl ?_ | refine .exit rfl ?_)
    refine RunsE.drawS H [] (by kernel_rfl) ?_; (try clear H); intro w H
    refine OpsD.take 0 rfl (by kernel_rfl) H (fun w H => Ev.move rfl) rfl ?_
    refine OpsD.take 1 rfl (by kernel_rfl) H (fun w H => Ev.move rfl) rfl ?_
    refine OpsD.take 2 rfl (by kernel_rfl) H (fun w H => Ev.iaSl (n := 5) (sz := 1) (m := 0) (o := o8 + 0) rfl rfl rfl (by kernel_rfl) hpos (by rw [Nat.mul_one])) rfl ?_
    refine OpsD.take 3 rfl (by kernel_rfl) H (fun w H => Ev.load (v := BV c) H rfl (by kernel_rfl) hr8.tail) rfl ?_
    refine OpsD.take 4 rfl (by kernel_rfl) H (fun w H => Ev.conv (c := (c.toNat : Int)) (k' := .i64) rfl (by kernel_rfl) (by kernel_rfl) (qi64 (by omega) (by omega))) rfl ?_
    refine OpsD.take 5 rfl (by kernel_rfl) H (fun w H => Ev.add (c := ((1 + c.toNat : Nat) : Int)) rfl rfl (by rw [qi64 (by omega) (by omega)]; omega)) rfl ?_
    refine OpsD.take 6 rfl (by kernel_rfl) H (fun w H => Ev.assign rfl) rfl ?_
    refine OpsD.take 7 rfl (by kernel_rfl) H (fun w H => Ev.assign rfl) rfl ?_
    refine OpsD.take 8 rfl (by kernel_rfl) H (fun w H => Ev.assign rfl) rfl ?_
    refine OpsD.done (by kernel_rfl) ?_
    repeat (first | refine .seq ?_ | refine .skip ?_ | refine .block ?_ | refine .inBlock ?_ | refine .yes rfl ?_ | refine .no rfl ?_ | refine .exit rfl ?_)
    refine RunsE.ret3 Tryz.func68 rfl rfl rfl rfl ?_
    rw [if_neg h3, if_neg h4]
    exact ⟨rfl, H⟩
  · obtain ⟨n, rfl⟩ : ∃ n, y = n + 1 := ⟨y - 1, by omega⟩
    repeat (first | refine .seq ?_ | refine .skip ?_ | refine .block ?_ | refine .inBlock ?_ | refine .yes rfl ?_ | refine .no rfl ?_ | refine .exit rfl ?_)
    refine RunsE.region ?_
    refine OpsE.ev (Ev.move rfl) rfl ?_
    refine OpsE.ev (Ev.ifNilNe rfl Tryz.underlying26) rfl ?_
    refine OpsE.nil ?_
    repeat (first | refine .seq ?_ | refine .skip ?_ | refine .block ?_ | refine .inBlock ?_ | refine .yes rfl ?_ | refine .no rfl ?_ | refine .exit rfl ?_)
    repeat (first | refine .seq ?_ | refine .skip ?_ | refine .block ?_ | refine .inBlock ?_ | refine .yes rfl ?_ | refine .no rfl ?_ | refine .exit rfl ?_)
    refine RunsE.region ?_
    refine OpsE.ev (Ev.move rfl) rfl ?_
    refine OpsE.ev (Ev.move rfl) rfl ?_
    refine OpsE.ex (Ex.call rfl Tryz.call70 (fail_spec b v k (n + 1) w F H)) rfl ?_; (try clear H); rintro _ w ⟨rfl, H⟩
    refine OpsE.nil ?_
    repeat (first | refine .seq ?_ | refine .skip ?_ | refine .block ?_ | refine .inBlock ?_ | refine .yes rfl ?_ | refine .no rfl ?_ | refine .exit rfl ?_)
    refine RunsE.region ?_
    refine OpsE.ev (Ev.assign rfl) rfl ?_
    refine OpsE.ev (Ev.assign rfl) rfl ?_
    refine OpsE.ev (Ev.assign rfl) rfl ?_
    refine OpsE.nil ?_
    repeat (first | refine .seq ?_ | refine .skip ?_ | refine .block ?_ | refine .inBlock ?_ | refine .yes rfl ?_ | refine .no rfl ?_ | refine .exit rfl ?_)
    refine RunsE.ret3 Tryz.func68 rfl rfl rfl rfl ?_
    by_cases h3 : x.1 ≠ 0
    · rw [if_pos h3] at hy ⊢
      rw [hy] at H
      exact ⟨by simp [h3], H⟩
    · rw [if_neg h3] at hy ⊢
      by_cases h4 : most < x.2
      · rw [if_pos h4] at hy ⊢
        rw [hy] at H
        exact ⟨rfl, H⟩
      · rw [if_neg h4] at hy
        cases hy

end Go.Proofs.YtflfaiakenahlaaGreatDoor
end
