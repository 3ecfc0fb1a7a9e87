/-
  The proof's parts, in one file: VSl, VInp, VRow, VEls, VRows, VFun, VRd, VMap, VIns, VMapS, KL.
-/
import Derived.Test.YtdppnaahdilkcaaGreatDoorM1
import Derived.ProofKit
import Derived.OpenShut
import Derived.Below
import Derived.Carry
import Derived.ChangeOld
import Derived.ChangeSlices
import Derived.Deep.DeepHandedRow
import Derived.Lib.LaidTab
import Derived.Deep.Slices
import Derived.Deep.Fields
import Derived.Maps.Keyed
import Derived.DeepKeys4
import Derived.Lib.Overlaps
import Derived.Maps.RangeRun

section
/-
  The engine: slices of one's own: literal, make, append, copy; bytes and strings.
-/
namespace Go.Proofs.YtdppnaahdilkcaaGreatDoor.V

section
variable {P : Program} {w : World} {e : Env} {ty t t2 : TypeId} {x y z : Operand} {v u : Value} {L L' B : List (Nat × Obj)}

/-- A slice or a string (append's second argument). -/
def srcT (P : Program) (t : TypeId) : Bool := match P.underlying t with
  | some (.slice _) | some .string => true
  | _ => false

theorem srcT_spec (h : srcT P t = true) : (∃ e, P.underlying t = some (.slice e)) ∨ P.underlying t = some .string := by
  unfold srcT at h
  split at h
  · rename_i e h'; exact .inl ⟨e, h'⟩
  · rename_i h'; exact .inr h'
  · cases h

theorem slT_spec {el sz : Nat} (ht : slT P t = some (el, sz)) : P.underlying t = some (.slice el) ∧ ∃ i, P.info? el = some i ∧ i.size = sz := by
  unfold slT at ht
  split at ht
  · rename_i e hu
    cases hi : P.info? e with
    | none => rw [hi] at ht; cases ht
    | some i =>
      rw [hi] at ht
      simp at ht
      obtain ⟨rfl, rfl⟩ := ht
      exact ⟨hu, i, hi, rfl⟩
  · cases ht

/-- What is appended: m elements, whose cells are vs. -/
inductive Src (w : World) (sz : Nat) : Value → Nat → List Value → Prop where
  | nil (c : Nat) : Src w sz (.slice none 0 c) 0 []
  | slice (a : Addr) (m c : Nat) (vs : List Value) : vs.length = m * sz → (∀ i v, vs[i]? = some v → w.cell? (a.add i) = some v) → Src w sz (.slice (some a) m c) m vs
  | string (s : ByteArray) : sz = 1 → Src w sz (.string s) s.size (s.data.toList.map fun b => .int .u8 b.toNat)

theorem Src.len {w : World} {sz m : Nat} {vs : List Value} (h : Src w sz u m vs) : (Builtin.lenOf u).run P w = .ok m w := by
  cases h <;> simp [Builtin.lenOf]

theorem Src.count {w : World} {sz m : Nat} {vs : List Value} (h : Src w sz u m vs) : vs.length = m * sz := by
  cases h with
  | nil => simp
  | slice _ _ _ _ h => exact h
  | string s hs => subst hs; simp

theorem Src.first {w : World} {sz m : Nat} {vs : List Value} (h : Src w sz u m vs) : (Builtin.firstCells sz m u).run P w = .ok vs.toArray w := by
  cases h with
  | nil => simp [Builtin.firstCells]
  | slice a m c vs hl hc =>
    simp only [Builtin.firstCells]
    rw [← hl]
    exact run_loadCells_list w a vs hc
  | string s hs =>
    simp only [Builtin.firstCells, Sem.run_pure]
    congr 1
    have : s.extract 0 s.size = s := by
      apply ByteArray.ext
      simp
    rw [this]
    apply Array.ext'
    simp

theorem Src.drew {w w' : World} {sz m : Nat} {vs : List Value} (h : Src w sz u m vs) (hw : w'.heap = w.heap) : Src w' sz u m vs := by
  cases h with
  | nil => exact .nil _
  | slice a m c vs hl hc => exact .slice a m c vs hl fun i v hi => by have := hc i v hi; simpa [World.cell?, hw] using this
  | string s hs => exact .string s hs

/-- The general form of an append: within the room there is. -/
theorem run_append_in {el sz n m cap : Nat} {g : Nat} {cs : Array Value} {T : TypeId} {vs : List Value} (ht : slT P t = some (el, sz)) (h2 : srcT P t2 = true) (hs : Src w sz u m vs)
    {fr : Nat × Nat} (hb : w.heap[g]? = some (.cells cs T fr)) (hfr : Thaw fr 0 (cap * sz)) (hone : ∀ v ∈ vs, v.oneCell' = true) (hroom : n + m ≤ cap) (hsz : cap * sz ≤ cs.size) :
    ∃ w', (Builtin.append_ #[t, t2] ty #[.slice (some ⟨g, 0, none⟩) n cap, u]).run P w = .ok (.slice (some ⟨g, 0, none⟩) (n + m) cap) w' ∧
      w'.heap[g]? = some (.cells (putAt cs (n * sz) vs) T fr) ∧ (∀ c, c ≠ g → w'.heap[c]? = w.heap[c]?) ∧ Same w w' := by
  obtain ⟨hu, inf, hi, rfl⟩ := slT_spec ht
  have hlen : (n + m) * inf.size ≤ cap * inf.size := Nat.mul_le_mul_right _ hroom
  have hcnt := hs.count
  obtain ⟨w', hr, h1, h3, h6⟩ := run_storeCells (P := P) vs hone w (n * inf.size) 0 cs hb (by rw [hcnt]; rw [Nat.add_mul] at hlen; omega) (fun j h4 h5 => hfr.not j (by omega) (by rw [hcnt] at h5; rw [Nat.add_mul] at hlen; omega))
  refine ⟨w', ?_, by simpa using h1, h3, h6⟩
  have hl := hs.len (P := P)
  have hf := hs.first (P := P)
  rcases srcT_spec h2 with ⟨e2, hu2⟩ | hu2
  · simp [Builtin.append_, run_underlying hu, run_underlying hu2, sizeOf, typeInfo, hi, hl, hroom, hf, add_none, hr]
  · simp [Builtin.append_, run_underlying hu, run_underlying hu2, sizeOf, typeInfo, hi, hl, hroom, hf, add_none, hr]

/-- The general form of an append: beyond it. -/
theorem run_append_out {el sz by_ n m cap : Nat} {zv : Value} {a : Option Addr} {xs vs : List Value} (ht : slT P t = some (el, sz)) (hby : bytesT P el = some by_) (hz : zeroT P el = some zv) (h2 : srcT P t2 = true)
    (hs : Src w sz u m vs) (hx : ∀ w', w'.heap = w.heap → (Builtin.firstCells sz n (.slice a n cap)).run P w' = .ok xs.toArray w') (hroom : cap < n + m) (h63 : n + m ≤ 9223372036854775807) (hbytes : (n + m) * by_ ≤ 140737488355328) :
    ∃ w' cap', (Builtin.append_ #[t, t2] ty #[.slice a n cap, u]).run P w = .ok (.slice (some ⟨w.heap.size, 0, none⟩) (n + m) cap') w' ∧ n + m ≤ cap' ∧
      w'.heap = w.heap.push (.cells (xs ++ vs ++ (Builtin.zeroCells zv.cells (cap' - (n + m))).toList).toArray el (0, 0)) ∧ Same w w' := by
  obtain ⟨hu, inf, hi, rfl⟩ := slT_spec ht
  simp only [bytesT, hi, Option.map_some, Option.some.injEq] at hby
  simp only [zeroT, hi, Option.bind_some] at hz
  subst hby
  have hfit := growslice_fits hroom hbytes
  have hn : ¬ (n + m ≤ cap) := by omega
  have h63' : ¬ (9223372036854775807 < ((n : Int) + (m : Int))) := by omega
  have h48' : ¬ (281474976710656 < Builtin.nextslicecap (n + m) cap * inf.bytes) := by omega
  have hl := hs.len (P := P)
  have hf := (hs.drew (w' := w.drew) rfl).first (P := P)
  have hfo := hx w.drew rfl
  refine ⟨w.drew.alloc (.cells (xs ++ vs ++ (Builtin.zeroCells zv.cells (grownCap w (n + m) cap el - (n + m))).toList).toArray el), grownCap w (n + m) cap el, ?_, grownCap_ge _ _ _ _, rfl, rfl, rfl, rfl⟩
  rcases srcT_spec h2 with ⟨e2, hu2⟩ | hu2
  · simp [Builtin.append_, run_underlying hu, run_underlying hu2, sizeOf, typeInfo, zeroValue, hi, hz, hl, hn, h63', h48', Question.forced, hf, hfo, newRow, grownCap]
    congr 2
    apply Array.ext'
    simp
  · simp [Builtin.append_, run_underlying hu, run_underlying hu2, sizeOf, typeInfo, zeroValue, hi, hz, hl, hn, h63', h48', Question.forced, hf, hfo, newRow, grownCap]
    congr 2
    apply Array.ext'
    simp

theorem zeroCells_len (zs : Array Value) (n : Nat) : (Builtin.zeroCells zs n).toList.length = n * zs.size := by simp [Builtin.zeroCells]

/-- Append onto a slice of one's own. -/
theorem Ex.append [Strm] {α : Type} {g : α → List Value} {sz by_ : Nat} {T : TypeId} {zv : Value} {xs ys : List α} (H : SL w (B ++ L)) (hx : e.val x = some v) (hy : e.val y = some u) (hs : Slc g sz T v xs B)
    (hsrc : Src w sz u ys.length (ys.flatMap g)) (hg : ∀ x, (g x).length = sz) (hone : ∀ x, ∀ v ∈ g x, v.oneCell' = true) (ht : slT P t = some (T, sz)) (h2 : srcT P t2 = true) (hby : bytesT P T = some by_)
    (hz : zeroT P T = some zv) (hzs : zv.cells.size = sz) (h63 : xs.length + ys.length ≤ 9223372036854775807) (hbytes : (xs.length + ys.length) * by_ ≤ 140737488355328) :
    Ex P w e (.call ⟨.builtin .append, #[x, y], #[t, t2]⟩) ty fun v' w' => ∃ B', Slc g sz T v' (xs ++ ys) B' ∧ SL w' (B' ++ L) := .of fun ρ hρ _ _ _ _ => by
  have hxs := flatMap_length hg xs
  have hys := flatMap_length hg ys
  have hone' : ∀ v ∈ ys.flatMap g, v.oneCell' = true := fun v hv => by
    obtain ⟨x, _, hx⟩ := List.mem_flatMap.1 hv
    exact hone x v hx
  have fin : ∀ v' w', (Builtin.append_ #[t, t2] ty #[v, u]).run P w = .ok v' w' → (∃ B', Slc g sz T v' (xs ++ ys) B' ∧ SL w' (B' ++ L)) →
      Lands P (fun v' w' => ∃ B', Slc g sz T v' (xs ++ ys) B' ∧ SL w' (B' ++ L)) ((execOp ρ ⟨‹_›, .call ⟨.builtin .append, #[x, y], #[t, t2]⟩, ty, ‹_›, ‹_›, ‹_›⟩).run P w) := fun v' w' hr h => by
    have e1 : (execOp ρ ⟨‹_›, .call ⟨.builtin .append, #[x, y], #[t, t2]⟩, ty, ‹_›, ‹_›, ‹_›⟩).run P w = .ok (.value v') w' := by
      simp [execOp, resolve, invoke, builtin, hρ _ _ hx, hρ _ _ hy, hr]
    rw [e1]
    exact h
  have mk : ∀ (w' : World) (g' cap' : Nat) (zs : List Value), xs.length + ys.length ≤ cap' → zs.length = (cap' - (xs.length + ys.length)) * sz →
      SL w' ((g', .cells (xs.flatMap g ++ ys.flatMap g ++ zs).toArray T (0, 0)) :: L) →
      ∃ B', Slc g sz T (.slice (some ⟨g', 0, none⟩) (xs.length + ys.length) cap') (xs ++ ys) B' ∧ SL w' (B' ++ L) := fun w' g' cap' zs hc hzl h => by
    refine ⟨[(g', .cells ((xs ++ ys).flatMap g ++ zs).toArray T (0, 0))], ?_, by simpa [List.flatMap_append] using h⟩
    have := Slc.blk (g := g) (sz := sz) (T := T) g' (xs ++ ys) cap' zs (0, 0) (by rw [hzl, List.length_append, ← Nat.add_mul]; congr 1; omega) (by simpa using hc) (Thaw.zero _ _)
    simpa using this
  cases hs with
  | nil =>
    simp only [List.length_nil, Nat.zero_add, List.nil_append, List.flatMap_nil] at *
    by_cases h0 : ys.length = 0
    · have hys0 : ys = [] := List.eq_nil_of_length_eq_zero h0
      subst hys0
      obtain ⟨hu, inf, hi, rfl⟩ := slT_spec ht
      have hl := hsrc.len (P := P)
      have hf := hsrc.first (P := P)
      simp only [List.length_nil, List.flatMap_nil] at hl hf
      refine fin (.slice none 0 0) w ?_ ⟨[], .nil, H⟩
      rcases srcT_spec h2 with ⟨e2, hu2⟩ | hu2
      · simp [Builtin.append_, run_underlying hu, run_underlying hu2, sizeOf, typeInfo, hi, hl, hf]
      · simp [Builtin.append_, run_underlying hu, run_underlying hu2, sizeOf, typeInfo, hi, hl, hf]
    · obtain ⟨w', cap', hr, hc, hh, hk⟩ := run_append_out (P := P) (t := t) (t2 := t2) (ty := ty) (n := 0) (cap := 0) (a := none) (xs := []) ht hby hz h2 hsrc (fun w' _ => by simp [Builtin.firstCells]) (by omega) (by omega) (by simpa using hbytes)
      simp only [Nat.zero_add, List.nil_append] at hr hc hh
      refine fin _ _ hr (mk w' _ _ (Builtin.zeroCells zv.cells (cap' - ys.length)).toList hc ?_ ?_)
      · rw [zeroCells_len, hzs]
      · have h3 := H.alloc (.cells (ys.flatMap g ++ (Builtin.zeroCells zv.cells (cap' - ys.length)).toList).toArray T (0, 0))
        exact h3.heap hh hk
  | blk b xs' cap spare fr hsp hle hfr =>
    by_cases hroom : xs.length + ys.length ≤ cap
    · have hm : (b, Obj.cells (xs.flatMap g ++ spare).toArray T fr) ∈ [(b, Obj.cells (xs.flatMap g ++ spare).toArray T fr)] ++ L := .head _
      have hmul : (xs.length + ys.length) * sz ≤ cap * sz := Nat.mul_le_mul_right _ hroom
      rw [Nat.add_mul] at hmul
      obtain ⟨w', hr, h1, h3, hk⟩ := run_append_in (P := P) (t := t) (t2 := t2) (ty := ty) ht h2 hsrc (H.1 _ hm) hfr hone' hroom (by simp only [List.size_toArray, List.length_append, hxs]; omega)
      refine fin _ _ hr ⟨[(b, .cells ((xs ++ ys).flatMap g ++ spare.drop (ys.length * sz)).toArray T fr)], ?_, ?_⟩
      · have := Slc.blk (g := g) (sz := sz) (T := T) b (xs ++ ys) cap (spare.drop (ys.length * sz)) fr (by simp only [List.length_drop, List.length_append, Nat.add_mul]; omega) (by simpa using hroom) hfr
        simpa using this
      · have e1 : putAt (xs.flatMap g ++ spare).toArray (xs.length * sz) (ys.flatMap g) = ((xs ++ ys).flatMap g ++ spare.drop (ys.length * sz)).toArray := by
          have h4 : spare = spare.take (ys.length * sz) ++ spare.drop (ys.length * sz) := (List.take_append_drop _ _).symm
          conv => lhs; rw [h4, ← List.append_assoc]
          rw [putAt_append hxs (by rw [hys, List.length_take]; omega), List.flatMap_append]
        rw [e1] at h1
        exact H.upd .head h1 h3 hk
    · have hfo : ∀ w', w'.heap = w.heap → (Builtin.firstCells sz xs.length (.slice (some ⟨b, 0, none⟩) xs.length cap)).run P w' = .ok (xs.flatMap g).toArray w' := fun w' hw => by
        have hm : (b, Obj.cells (xs.flatMap g ++ spare).toArray T fr) ∈ [(b, Obj.cells (xs.flatMap g ++ spare).toArray T fr)] ++ L := .head _
        simp only [Builtin.firstCells]
        rw [← hxs]
        refine run_loadCells_list w' _ _ fun i v hi => ?_
        rw [add_none, Nat.zero_add]
        refine Rd.cellH (L := [(b, Obj.cells (xs.flatMap g ++ spare).toArray T fr)] ++ L) (fun p hp => by rw [hw]; exact H.1 p hp) (Rd.mk hm ?_)
        rw [List.getElem?_toArray]
        have hlt : i < (xs.flatMap g).length := by
          rcases Nat.lt_or_ge i (xs.flatMap g).length with h | h
          · exact h
          · rw [List.getElem?_eq_none h] at hi; cases hi
        rw [List.getElem?_append_left hlt]
        exact hi
      obtain ⟨w', cap', hr, hc, hh, hk⟩ := run_append_out (P := P) (t := t) (t2 := t2) (ty := ty) ht hby hz h2 hsrc hfo (by omega) h63 hbytes
      refine fin _ _ hr (mk w' _ _ (Builtin.zeroCells zv.cells (cap' - (xs.length + ys.length))).toList hc ?_ ?_)
      · rw [zeroCells_len, hzs]
      · have h3 := (SL.dropL H).alloc (.cells (xs.flatMap g ++ ys.flatMap g ++ (Builtin.zeroCells zv.cells (cap' - (xs.length + ys.length))).toList).toArray T (0, 0))
        exact h3.heap hh hk

/-! ### Literals, make, copy -/

def Env.parts (e : Env) : Nat → List (Nat × Operand) → Option (List Value)
  | _, [] => some []
  | k, (i, x) :: r => bif Nat.beq i k then (match e.val x with
    | none => none
    | some v => match Env.parts e (k + 1) r with
      | none => none
      | some vs => some (v :: vs)) else none

theorem fill_row {ρ : Operand → Value} (hρ : Knows ρ e) : ∀ {l : List (Nat × Operand)} {vs : List Value} {k : Nat} {cs : Array Value}, e.parts k l = some vs → (∀ v ∈ vs, v.oneCell' = true) → k + vs.length ≤ cs.size →
    Instr.fill (fun i => some (i * 1, 1)) cs (l.map fun (i, x) => (i, ρ x)) = some (putAt cs k vs)
  | [], vs, k, cs, h, _, _ => by simp [Env.parts] at h; subst h; rfl
  | (i, x) :: r, vs, k, cs, h, h1, hk => by
    unfold Env.parts at h
    cases hb : Nat.beq i k with
    | false => rw [hb] at h; cases h
    | true =>
      rw [hb] at h
      simp only [cond_true] at h
      have hik : i = k := Nat.eq_of_beq_eq_true hb
      subst hik
      cases hx : e.val x with
      | none => rw [hx] at h; cases h
      | some v =>
        rw [hx] at h
        cases hr : e.parts (i + 1) r with
        | none => rw [hr] at h; cases h
        | some vs' =>
          rw [hr] at h
          cases h
          have hv := h1 v (.head _)
          have hc : v.cells = #[v] := by cases v <;> first | rfl | simp [Value.oneCell'] at hv
          simp only [List.length_cons] at hk
          have hrec := fill_row hρ (cs := cs.setIfInBounds i v) hr (fun v hv => h1 v (.tail _ hv)) (by simp; omega)
          have hge : ¬ cs.size < i + 1 := by omega
          simp only [List.map_cons, Instr.fill, hρ _ _ hx, hc]
          simp only [Nat.mul_one, List.size_toArray, List.length_cons, List.length_nil, Nat.zero_add, ne_eq, not_true, decide_false, Bool.false_or, gt_iff_lt, hge, Bool.false_eq_true, if_false]
          simpa [putAt] using hrec

theorem Ex.buildSl [Strm] {len : Nat} {l : List (Nat × Operand)} {vs : List Value} {T : TypeId} {zv : Value} (H : SL w L) (hl : e.parts 0 l = some vs) (ht : slT P t = some (T, 1)) (hz : zeroT P T = some zv)
    (h1 : ∀ v ∈ vs, v.oneCell' = true) (hn : vs.length = len) (h0 : 0 < len) (hlen : len ≤ 16777216) :
    Ex P w e (.buildSlice t len l.toArray) ty fun v w' => ∃ b, v = .slice (some ⟨b, 0, none⟩) len len ∧ SL w' ((b, .cells vs.toArray T (0, 0)) :: L) := .of fun ρ hρ _ _ _ _ => by
  obtain ⟨hu, inf, hi, hs⟩ := slT_spec ht
  simp only [zeroT, hi, Option.bind_some] at hz
  have h24 : ¬ (len * 1 > 2 ^ 24) := by omega
  have hne : ¬ (len * 1 = 0) := by omega
  have hfill := fill_row (e := e) hρ (cs := (Array.range (len * 1)).map (zv.cells[· % zv.cells.size]!)) hl h1 (by simp [hn])
  rw [putAt_all (by simp [hn])] at hfill
  simp only [execOp, Instr.buildSlice, Sem.run_bind, run_underlying hu, Result.andThen, sizeOf, typeInfo, run_program, hi, hs, Sem.run_pure, h24, hne, if_false, zeroValue, hz]
  simp only [List.map_toArray] at *
  rw [hfill]
  simp only [newRow, Sem.run_bind, run_newObj, Result.andThen, Sem.run_pure]
  exact ⟨w.heap.size, rfl, H.alloc _⟩

theorem range_zero (z : Value) (hz : z.oneCell' = true) (n : Nat) : ((Array.range n).map (z.cells[· % z.cells.size]!)) = (List.replicate n z).toArray := by
  have hc : z.cells = #[z] := by cases z <;> first | rfl | simp [Value.oneCell'] at hz
  rw [hc]
  apply Array.ext_getElem?
  intro i
  by_cases hi : i < n
  · simp [hi, Nat.mod_one]
  · simp [hi]

theorem Ex.makeSl [Strm] {lo co : Operand} {ln cp : Nat} {T : TypeId} {zv : Value} {by_ : Nat} {k k' : IntKind} (H : SL w L) (hlo : e.val lo = some (.int k (ln : Nat))) (hco : e.val co = some (.int k' (cp : Nat))) (ht : slT P t = some (T, 1))
    (hby : bytesT P T = some by_) (hz : zeroT P T = some zv) (h1 : zv.oneCell' = true) (hle : ln ≤ cp) (hc : cp ≤ 9223372036854775807) (hb : by_ * cp ≤ 281474976710656) :
    Ex P w e (.makeSlice t lo co) ty fun v w' => ∃ b, v = .slice (some ⟨b, 0, none⟩) ln cp ∧ SL w' ((b, .cells (List.replicate cp zv).toArray T (0, 0)) :: L) := .of fun ρ hρ _ _ _ _ => by
  obtain ⟨hu, inf, hi, hs⟩ := slT_spec ht
  simp only [zeroT, hi, Option.bind_some] at hz
  simp only [bytesT, hi, Option.map_some, Option.some.injEq] at hby
  subst hby
  have w1 : IntKind.i64.wrap (ln : Int) = ln := qi64 (by omega) (by omega)
  have w2 : IntKind.i64.wrap (cp : Int) = cp := qi64 (by omega) (by omega)
  have hb' : ¬ ((inf.bytes : Int) * (cp : Int) > 2 ^ 48) := by
    have : ((inf.bytes * cp : Nat) : Int) ≤ 281474976710656 := by omega
    rw [Int.natCast_mul] at this
    omega
  have hle' : ¬ ((ln : Int) > (cp : Int)) := by omega
  have hc0 : ¬ ((cp : Int) < 0) := by omega
  have hl0 : ¬ ((ln : Int) < 0) := by omega
  have hrun : (Instr.makeSlice t (.int k ln) (.int k' cp)).run P w = .ok (.slice (some ⟨w.heap.size, 0, none⟩) ln cp) { w with heap := w.heap.push (.cells (List.replicate cp zv).toArray T (0, 0)) } := by
    by_cases h0 : cp = 0
    · subst h0
      have hln : ln = 0 := by omega
      subst hln
      have w0 : IntKind.i64.wrap 0 = 0 := by decide +kernel
      simp [Instr.makeSlice, run_underlying hu, asInt, asIntOf, typeInfo, hi, sizeOf, newRow, w0]
      congr 2
      apply Array.ext'
      simp
    · have hr := range_zero zv h1 cp
      simp only [Instr.makeSlice, Sem.run_bind, run_underlying hu, Result.andThen, asInt, asIntOf, Sem.run_pure, typeInfo, run_program, hi, w1, w2]
      have hb2 : ¬ (281474976710656 < (inf.bytes : Int) * (cp : Int)) := by omega
      simp [hc0, hl0, hle', hb2, run_askRoom, sizeOf, typeInfo, hi, hs, h0, zeroValue, hz, newRow, hr]
  simp only [execOp, hρ _ _ hlo, hρ _ _ hco, Sem.run_bind, hrun, Result.andThen]
  exact ⟨w.heap.size, rfl, H.alloc _⟩

/-- copy: what is read (vs, out of the source) is laid into the row of the destination. -/
theorem Ex.copy [Strm] {b off dl dc n sl sz : Nat} {T el : TypeId} {fr : Nat × Nat} {cs cs' : Array Value} {vs : List Value} {a : Option Addr} {sc : Nat} (H : SL w L) (hx : e.val x = some (.slice (some ⟨b, off, none⟩) dl dc))
    (hy : e.val y = some (.slice a sl sc)) (ht : slT P t = some (el, sz)) (hn : Nat.min sl dl = n) (hvs : vs.length = n * sz)
    (hread : match a with | none => vs = [] | some ad => ∀ i v, vs[i]? = some v → Rd L (ad.add i) v) (hone : ∀ v ∈ vs, v.oneCell' = true)
    (hu : Upd b (.cells cs T fr) (.cells cs' T fr) L L') (hoff : off + n * sz ≤ cs.size) (hfr : Thaw fr off (n * sz)) (hcs : putAt cs off vs = cs') :
    Ex P w e (.call ⟨.builtin .copy, #[x, y], #[t, t2]⟩) ty fun v w' => v = .int .i64 (n : Nat) ∧ SL w' L' := .of fun ρ hρ _ _ _ _ => by
  obtain ⟨hu', inf, hi, rfl⟩ := slT_spec ht
  have hm := H.1 _ hu.mem
  obtain ⟨w', hr, h1, h2, h3⟩ := run_storeCells (P := P) vs hone w off 0 cs hm (by omega) (by simp only [Nat.add_zero]; rw [hvs]; exact hfr.not)
  have hf : (Builtin.firstCells inf.size n (.slice a sl sc)).run P w = .ok vs.toArray w := by
    cases a with
    | none => simp only at hread; subst hread; simp [Builtin.firstCells]
    | some ad =>
      simp only at hread
      simp only [Builtin.firstCells]
      rw [← hvs]
      exact run_loadCells_list w ad vs fun i v hi => Rd.cell H (hread i v hi)
  have hrun : (Builtin.copy_ #[t, t2] ty #[.slice (some ⟨b, off, none⟩) dl dc, .slice a sl sc]).run P w = .ok (.int .i64 (n : Nat)) w' := by
    simp [Builtin.copy_, run_underlying hu', Builtin.lenOf, sizeOf, typeInfo, hi, hn, hf, hr, goInt]
  have hS : SL w' L' := H.upd hu (by rw [h1]; simp [hcs]) h2 h3
  have e1 : (execOp ρ ⟨‹_›, .call ⟨.builtin .copy, #[x, y], #[t, t2]⟩, ty, ‹_›, ‹_›, ‹_›⟩).run P w = .ok (.value (.int .i64 (n : Nat))) w' := by
    simp [execOp, resolve, invoke, builtin, hρ _ _ hx, hρ _ _ hy, hrun]
  rw [e1]
  exact ⟨rfl, hS⟩

/-! ### Bytes and strings -/

abbrev BV (x : UInt8) : Value := .int .u8 (x.toNat : Int)

/-- 'string(b)'. -/
theorem Ev.bytesStr [Strm] {ad : Addr} {n c : Nat} {el : TypeId} {bs : List UInt8} (H : SL w L) (hx : e.val x = some (.slice (some ad) n c)) (hs : P.underlying t = some (.slice el)) (he : P.underlying el = some (.int .u8)) (hd : P.underlying t2 = some .string)
    (hn : bs.length = n) (hr : ∀ i v, (bs.map BV)[i]? = some v → Rd L (ad.add i) v) : Ev P w e (.convert t t2 x) ty (.string ⟨bs.toArray⟩) := .of fun ρ hρ _ _ _ _ => by
  have hl := run_loadCells_list (P := P) w ad (bs.map BV) fun i v hi => Rd.cell H (hr i v hi)
  rw [List.length_map, hn] at hl
  have hrun := run_bytesToString (P := P) w ad n c (bs.map fun b => (b.toNat : Int)) (by rw [hl]; simp [List.map_map, Function.comp_def])
  rw [foldl_push_bytes] at hrun
  have e1 : (ByteArray.mk (ByteArray.empty.data ++ ((bs.map fun b => (b.toNat : Int)).map fun n => UInt8.ofNat n.toNat).toArray)) = ⟨bs.toArray⟩ := by
    congr 1
    apply Array.ext'
    simp [List.map_map, Function.comp_def]
  rw [e1] at hrun
  simp [execOp, hρ _ _ hx, convert, run_underlying hs, run_underlying he, run_underlying hd, hrun]

theorem Ev.nilStr {n c : Nat} {el : TypeId} (hx : e.val x = some (.slice none n c)) (hs : P.underlying t = some (.slice el)) (he : P.underlying el = some (.int .u8)) (hd : P.underlying t2 = some .string) :
    Ev P w e (.convert t t2 x) ty (.string .empty) := .of fun ρ hρ _ _ _ _ => by
  simp [execOp, hρ _ _ hx, convert, run_underlying hs, run_underlying he, run_underlying hd, Conv.bytesToString]

/-- A byte slice that is marked as one that a string may share: it reads as it did. -/
theorem Ex.mark [Strm] {b off n c : Nat} {el T : TypeId} {cs : Array Value} (H : SL w L) (hx : e.val x = some (.slice (some ⟨b, off, none⟩) n c)) (hs : P.underlying t = some (.slice el)) (he : P.underlying el = some (.int .u8))
    (hu : Upd b (.cells cs T (0, 0)) (.cells cs T (cs.size, cs.size + 1)) L L') :
    Ex P w e (.convert t t x) ty fun v w' => v = .slice (some ⟨b, off, none⟩) n c ∧ SL w' L' := .of fun ρ hρ _ _ _ _ => by
  have hm := H.1 _ hu.mem
  have hsh : w.shape? b = some (T, cs.size) := by simp [World.shape?, hm]
  have hrun : (convert t t (.slice (some ⟨b, off, none⟩) n c)).run P w = .ok (.slice (some ⟨b, off, none⟩) n c) (w.freeze ⟨b, cs.size, none⟩ 1) := by
    simp [convert, run_underlying hs, run_underlying he, markStringish, hsh]
  have hS : SL (w.freeze ⟨b, cs.size, none⟩ 1) L' := by
    refine H.upd hu ?_ (fun c hc => ?_) ⟨rfl, rfl, rfl⟩
    · simp [World.freeze, Array.getElem?_modify, hm]
    · simp [World.freeze, Array.getElem?_modify, Ne.symm hc]
  simp only [execOp, hρ _ _ hx, Sem.run_bind, hrun, Result.andThen]
  exact ⟨rfl, hS⟩

/-- '[]byte(s)'. -/
theorem Ex.strBytes [Strm] {el : TypeId} {s : ByteArray} (H : SL w L) (hx : e.val x = some (.string s)) (hs : P.underlying t = some .string) (hd : P.underlying t2 = some (.slice el)) (he : P.underlying el = some (.int .u8)) :
    Ex P w e (.convert t t2 x) ty fun v w' => ∃ B, Slc (fun b => [BV b]) 1 el v s.data.toList B ∧ SL w' (B ++ L) := .of fun ρ hρ _ _ _ _ => by
  let cap := s.size + (w.tape w.drawn (.appendCap s.size 0 el)) % (2 ^ 63 - s.size)
  let c : Array Value := s.data.map (fun b => BV b) ++ Array.replicate (cap - s.size) (.int .u8 0)
  have hcs : c.size = cap := by simp [c, cap]
  let w1 : World := { w with drawn := w.drawn + 1, heap := w.heap.push (.cells c el (0, 0)) }
  have hsh : w1.shape? w.heap.size = some (el, cap) := by simp [World.shape?, w1, hcs]
  have hrun : (convert t t2 (.string s)).run P w = .ok (.slice (some ⟨w.heap.size, 0, none⟩) s.size cap) (w1.freeze ⟨w.heap.size, cap, none⟩ 1) := by
    simp only [convert, Sem.run_bind, run_underlying hs, Result.andThen, run_underlying hd, run_underlying he, Conv.stringToBytes, run_choose, Question.forced, Question.cut, Bool.false_eq_true, if_false, newRow, run_newObj, Sem.run_pure, markStringish, run_shape]
    rw [show ({ w with drawn := w.drawn + 1, heap := w.heap.push (.cells (s.data.map (fun b => BV b) ++ Array.replicate (s.size + w.tape w.drawn (.appendCap s.size 0 el) % (2 ^ 63 - s.size) - s.size) (.int .u8 0)) el (0, 0)) } : World) = w1 from rfl]
    simp [hsh, cap]
  have H1 : SL w1 ((w.heap.size, .cells c el (0, 0)) :: L) := (H.alloc (.cells c el (0, 0))).heap rfl ⟨rfl, rfl, rfl⟩
  have hm := H1.1 _ (.head _)
  have H2 : SL (w1.freeze ⟨w.heap.size, cap, none⟩ 1) ((w.heap.size, .cells c el (cap, cap + 1)) :: L) := by
    refine H1.upd .head ?_ (fun c hc => ?_) ⟨rfl, rfl, rfl⟩
    · simp [World.freeze, Array.getElem?_modify, hm]
    · simp [World.freeze, Array.getElem?_modify, Ne.symm hc]
  simp only [execOp, hρ _ _ hx, Sem.run_bind, hrun, Result.andThen]
  refine ⟨[(w.heap.size, .cells (s.data.toList.flatMap (fun b => [BV b]) ++ List.replicate (cap - s.size) (Value.int .u8 0)).toArray el (cap, cap + 1))], ?_, ?_⟩
  · have := Slc.blk (g := fun b => [BV b]) (sz := 1) (T := el) w.heap.size s.data.toList cap (List.replicate (cap - s.size) (Value.int .u8 0)) (cap, cap + 1) (by simp [cap]; omega) (by simp [cap]) (.inr (.inl (by simp)))
    simpa using this
  · have e2 : (s.data.toList.flatMap (fun b => [BV b]) ++ List.replicate (cap - s.size) (Value.int .u8 0)).toArray = c := by
      rw [flatMap_one]
      apply Array.ext'
      simp [c]
    rw [e2]
    exact H2

theorem Ev.strEq {s s' : ByteArray} {t t' : TypeId} (hx : e.val x = some (.string s)) (hy : e.val y = some (.string s')) : Ev P w e (.binOp .eql t x y t') ty (.bool (s.toList == s'.toList)) := .of fun ρ hρ _ _ _ _ => by
  simp [execOp, hρ _ _ hx, hρ _ _ hy, eqGuard, binOp, Op.stringOp]
theorem Ev.strNe {s s' : ByteArray} {t t' : TypeId} (hx : e.val x = some (.string s)) (hy : e.val y = some (.string s')) : Ev P w e (.binOp .neq t x y t') ty (.bool (!(s.toList == s'.toList))) := .of fun ρ hρ _ _ _ _ => by
  simp [execOp, hρ _ _ hx, hρ _ _ hy, eqGuard, binOp, Op.stringOp]
theorem Ev.strAdd {s s' : ByteArray} {t t' : TypeId} (hx : e.val x = some (.string s)) (hy : e.val y = some (.string s')) (h : s.size + s'.size ≤ 9223372036854775807) : Ev P w e (.binOp .add t x y t') ty (.string (s ++ s')) := .of fun ρ hρ _ _ _ _ => by
  have e63 : (s.size : Int) + s'.size ≤ 9223372036854775807 := by omega
  simp [execOp, hρ _ _ hx, hρ _ _ hy, eqGuard, binOp, Op.stringOp, e63]

/-! ### Structs and arrays that are values -/

def Env.partsI (e : Env) : List (Nat × Operand) → Option (List (Nat × Value))
  | [] => some []
  | (i, x) :: r => match e.val x with
    | none => none
    | some v => match Env.partsI e r with
      | none => none
      | some vs => some ((i, v) :: vs)

theorem Env.partsI_map {ρ : Operand → Value} (hρ : Knows ρ e) : ∀ {l : List (Nat × Operand)} {vs : List (Nat × Value)}, e.partsI l = some vs → (l.map fun (i, x) => (i, ρ x)) = vs
  | [], vs, h => by simp [Env.partsI] at h; simp [h]
  | (i, x) :: r, vs, h => by
    unfold Env.partsI at h
    cases hx : e.val x with
    | none => rw [hx] at h; cases h
    | some v =>
      rw [hx] at h
      cases hr : e.partsI r with
      | none => rw [hr] at h; cases h
      | some vs' =>
        rw [hr] at h
        cases h
        simp [hρ _ _ hx, Env.partsI_map hρ hr]

/-- Parts laid into cells, each at its place. -/
def fillP (pl : Nat → Option (Nat × Nat)) (cells : Array Value) : List (Nat × Value) → Option (Array Value)
  | [] => some cells
  | (i, v) :: rest => match pl i with
    | none => none
    | some (off, size) => if v.cells.size = size ∧ off + size ≤ cells.size then fillP pl (putAt cells off v.cells.toList) rest else none

theorem foldl_putAt (vs : List Value) : ∀ (cs : Array Value) (off k : Nat), (vs.zipIdx k).foldl (fun cs p => cs.setIfInBounds (off + p.2) p.1) cs = putAt cs (off + k) vs := by
  induction vs with
  | nil => intro cs off k; rfl
  | cons v r ih => intro cs off k; simp only [List.zipIdx_cons, List.foldl_cons, ih, putAt, Nat.add_assoc]

theorem fill_of_fillP (pl : Nat → Option (Nat × Nat)) : ∀ (ps : List (Nat × Value)) (cells cs : Array Value), fillP pl cells ps = some cs → Instr.fill pl cells ps = some cs
  | [], cells, cs, h => h
  | (i, v) :: rest, cells, cs, h => by
    unfold fillP at h
    unfold Instr.fill
    cases hp : pl i with
    | none => rw [hp] at h; cases h
    | some os =>
      obtain ⟨off, size⟩ := os
      rw [hp] at h
      simp only at h ⊢
      by_cases hc : v.cells.size = size ∧ off + size ≤ cells.size
      · rw [if_pos hc] at h
        have hn : ¬ (off + v.cells.size > cells.size) := by rw [hc.1]; omega
        have hfold := foldl_putAt v.cells.toList cells off 0
        simp only [Nat.add_zero] at hfold
        have e1 : v.cells.zipIdx.foldl (fun cs p => cs.setIfInBounds (off + p.2) p.1) cells = putAt cells off v.cells.toList := by
          rw [← hfold, ← Array.foldl_toList, Array.toList_zipIdx]
        simp only [hc.1, ne_eq, not_true, decide_false, Bool.false_or, decide_eq_true_eq]
        rw [hc.1] at hn
        rw [if_neg (by simp [hn])]
        have := fill_of_fillP pl rest _ cs h
        rw [← e1] at this
        exact this
      · rw [if_neg hc] at h; cases h

/-- The places of a struct's fields. -/
def structT (P : Program) (t : TypeId) : Option (List (Nat × Nat)) := match P.underlying t with
  | some (.struct fs) => fs.toList.mapM fun f => (P.info? f.type).map fun i => (f.offset, i.size)
  | _ => none

theorem run_places : ∀ (fs : List Field) (pl : List (Nat × Nat)), (fs.mapM fun f => (P.info? f.type).map fun i => (f.offset, i.size)) = some pl →
    (fs.mapM (m := Sem) fun f => do pure (f.offset, ← sizeOf f.type)).run P w = .ok pl w
  | [], pl, h => by simp at h; subst h; simp
  | f :: fs, pl, h => by
    simp only [List.mapM_cons, bind, Option.bind_eq_some_iff, pure, Option.some.injEq] at h
    obtain ⟨a, ha, pl', hpl, rfl⟩ := h
    cases hi : P.info? f.type with
    | none => rw [hi] at ha; cases ha
    | some i =>
      rw [hi] at ha
      simp at ha
      subst ha
      have ih := run_places fs pl' hpl
      have hs : (sizeOf f.type).run P w = .ok i.size w := by simp [sizeOf, typeInfo, hi]
      rw [List.mapM_cons]
      simp only [Sem.run_bind, hs, Result.andThen, Sem.run_pure, ih]

theorem Ev.buildSt {l : List (Nat × Operand)} {ps : List (Nat × Value)} {pl : List (Nat × Nat)} {zv : Value} {cs : Array Value} (hl : e.partsI l = some ps) (ht : structT P t = some pl) (hz : zeroT P t = some zv)
    (hf : fillP (fun i => pl[i]?) zv.cells ps = some cs) : Ev P w e (.build t l.toArray) ty (.agg cs) := .of fun ρ hρ _ _ _ _ => by
  have h1 := Env.partsI_map hρ hl
  unfold structT at ht
  unfold zeroT at hz
  cases hi : P.info? t with
  | none => rw [hi] at hz; cases hz
  | some inf =>
    rw [hi] at hz
    simp only [Option.bind_some] at hz
    split at ht
    · rename_i fs hu
      have hp := run_places (P := P) (w := w) fs.toList pl ht
      have hfill := fill_of_fillP _ _ _ _ hf
      have hm : (fs.mapM (m := Sem) fun f => do pure (f.offset, ← sizeOf f.type)) = (List.toArray <$> (fs.toList.mapM fun f => do pure (f.offset, ← sizeOf f.type))) := by
        rw [Array.mapM_eq_mapM_toList]
      have hm2 : (fs.mapM (m := Sem) fun f => do pure (f.offset, ← sizeOf f.type)).run P w = .ok pl.toArray w := by rw [hm, Sem.run_map, hp]; rfl
      simp only [execOp, List.map_toArray, h1, Instr.build, zeroValue, typeInfo, Sem.run_bind, run_program, Result.andThen, hi, Sem.run_pure, hz, run_underlying hu, hm2]
      simp [hfill]
    · cases ht

/-- An array's literal, its elements of one cell each, all of them written. -/
theorem Ev.buildArr {n : Nat} {l : List (Nat × Operand)} {vs : List Value} {zv : Value} (hl : e.parts 0 l = some vs) (ht : arrT P t = some (n, 1)) (hz : zeroT P t = some zv) (hzn : zv.cells.size = n)
    (h1 : ∀ v ∈ vs, v.oneCell' = true) (hn : vs.length = n) : Ev P w e (.build t l.toArray) ty (.agg vs.toArray) := .of fun ρ hρ _ _ _ _ => by
  have hfill := fill_row (e := e) hρ (cs := zv.cells) hl h1 (by omega)
  rw [putAt_all (by omega)] at hfill
  unfold arrT at ht
  unfold zeroT at hz
  cases hi : P.info? t with
  | none => rw [hi] at hz; cases hz
  | some inf =>
    rw [hi] at hz
    simp only [Option.bind_some] at hz
    split at ht
    · rename_i n' el hu
      cases hi2 : P.info? el with
      | none => rw [hi2] at ht; cases ht
      | some inf2 =>
        rw [hi2] at ht
        simp at ht
        obtain ⟨rfl, hs⟩ := ht
        simp only [execOp, List.map_toArray, Instr.build, zeroValue, typeInfo, Sem.run_bind, run_program, Result.andThen, hi, Sem.run_pure, hz, run_underlying hu, sizeOf, hi2, hs]
        rw [hfill]
        rfl
    · cases ht

/-- An array's zero value. -/
theorem Ev.buildZero {n sz : Nat} {zv : Value} (ht : arrT P t = some (n, sz)) (hz : zeroT P t = some zv) : Ev P w e (.build t #[]) ty (.agg zv.cells) := .of fun ρ hρ _ _ _ _ => by
  unfold arrT at ht
  unfold zeroT at hz
  cases hi : P.info? t with
  | none => rw [hi] at hz; cases hz
  | some inf =>
    rw [hi] at hz
    simp only [Option.bind_some] at hz
    split at ht
    · rename_i n' el hu
      cases hi2 : P.info? el with
      | none => rw [hi2] at ht; cases ht
      | some inf2 => simp [execOp, Instr.build, zeroValue, typeInfo, hi, hz, run_underlying hu, sizeOf, hi2, Instr.fill]
    · cases ht

/-! ### Words for slices of one's own -/

theorem Rd.right {A : List (Nat × Obj)} {a : Addr} {v : Value} (h : Rd L a v) : Rd (A ++ L) a v := h.sub fun _ hp => List.mem_append_right _ hp

theorem Rd.left {A : List (Nat × Obj)} {a : Addr} {v : Value} (h : Rd L a v) : Rd (L ++ A) a v := h.sub fun _ hp => List.mem_append_left _ hp

theorem SL.mid [Strm] {A : List (Nat × Obj)} {x : Nat × Obj} (h : SL w (x :: (A ++ L))) : SL w (A ++ x :: L) := h.perm List.perm_middle

theorem SL.unmid [Strm] {A : List (Nat × Obj)} {x : Nat × Obj} (h : SL w (A ++ x :: L)) : SL w (x :: (A ++ L)) := h.perm List.perm_middle.symm

theorem SL.dropMid [Strm] {A : List (Nat × Obj)} {x : Nat × Obj} (h : SL w (A ++ x :: L)) : SL w (A ++ L) := h.unmid.drop

theorem SL.sublist [Strm] {w : World} {L L' : List (Nat × Obj)} (h : SL w L) (hs : L'.Sublist L) : SL w L' := ⟨fun p hp => h.1 p (hs.subset hp), h.2.1.sublist (hs.map _), h.2.2⟩

/-- A slice over (a part of) a known row, as what is appended. -/
theorem Src.row [Strm] {b m c sz : Nat} {vs sp : List Value} {T : TypeId} {fr : Nat × Nat} (H : SL w L) (hm : (b, Obj.cells (vs ++ sp).toArray T fr) ∈ L) (hl : vs.length = m * sz) : Src w sz (.slice (some ⟨b, 0, none⟩) m c) m vs :=
  .slice _ _ _ _ hl fun i v hi => by
    rw [add_none, Nat.zero_add]
    refine Rd.cell H (Rd.mk hm ?_)
    have hlt : i < vs.length := by
      rcases Nat.lt_or_ge i vs.length with h | h
      · exact h
      · rw [List.getElem?_eq_none h] at hi; cases hi
    rw [List.getElem?_toArray, List.getElem?_append_left hlt, hi]

theorem Src.row0 [Strm] {b m c sz : Nat} {vs : List Value} {T : TypeId} {fr : Nat × Nat} (H : SL w L) (hm : (b, Obj.cells vs.toArray T fr) ∈ L) (hl : vs.length = m * sz) : Src w sz (.slice (some ⟨b, 0, none⟩) m c) m vs :=
  Src.row (sp := []) H (by simpa using hm) hl

/-- A slice of one's own, as what is appended. -/
theorem Src.own [Strm] {α : Type} {g : α → List Value} {sz : Nat} {T : TypeId} {xs : List α} (hg : ∀ x, (g x).length = sz) (hs : Slc g sz T u xs B) (H : SL w L) (hB : ∀ p ∈ B, p ∈ L) : Src w sz u xs.length (xs.flatMap g) := by
  cases hs with
  | nil => exact .nil _
  | blk b xs' cap spare fr h1 h2 h3 => exact Src.row H (hB _ (.head _)) (flatMap_length hg xs)

theorem Slc.shape {α : Type} {g : α → List Value} {sz : Nat} {T : TypeId} {xs : List α} (hs : Slc g sz T v xs B) (h0 : 0 < xs.length) :
    ∃ b cap spare fr, v = .slice (some ⟨b, 0, none⟩) xs.length cap ∧ B = [(b, .cells (xs.flatMap g ++ spare).toArray T fr)] ∧ spare.length + xs.length * sz = cap * sz ∧ xs.length ≤ cap ∧ Thaw fr 0 (cap * sz) := by
  cases hs with
  | nil => simp at h0
  | blk b xs' cap spare fr h1 h2 h3 => exact ⟨b, cap, spare, fr, rfl, rfl, h1, h2, h3⟩

/-- The length of a slice of one's own. -/
theorem Slc.len {α : Type} {g : α → List Value} {sz : Nat} {T : TypeId} {xs : List α} (hs : Slc g sz T v xs B) : ∃ a c, v = .slice a xs.length c := by
  cases hs with
  | nil => exact ⟨_, _, rfl⟩
  | blk b xs' cap spare fr h1 h2 h3 => exact ⟨_, _, rfl⟩

end
end Go.Proofs.YtdppnaahdilkcaaGreatDoor.V
end

section
/-
  The engine: bytes that came in (or that somebody else has): what is read there, and what is cut from them.
-/
namespace Go.Proofs.YtdppnaahdilkcaaGreatDoor.V

abbrev gB (x : UInt8) : List Value := [BV x]

theorem gB_map (xs : List UInt8) : xs.flatMap gB = xs.map BV := flatMap_one BV xs

/-- Bytes that somebody else has: what is read there. -/
inductive Inp (L : List (Nat × Obj)) : Value → List UInt8 → Prop where
  | nil : Inp L (.slice none 0 0) []
  | empty (a : Addr) (c : Nat) : Inp L (.slice (some a) 0 c) []
  | blk (b off c : Nat) (bs : List UInt8) : bs.length ≤ c → (∀ i, i < bs.length → Rd L ⟨b, off + i, none⟩ (BV (bs.getD i 0))) → Inp L (.slice (some ⟨b, off, none⟩) bs.length c) bs

theorem Inp.sub {L L' : List (Nat × Obj)} {v : Value} {bs : List UInt8} (h : Inp L v bs) (hs : ∀ p ∈ L, p ∈ L') : Inp L' v bs := by
  cases h with
  | nil => exact .nil
  | empty a c => exact .empty a c
  | blk b off c bs hc hr => exact .blk b off c bs hc fun i hi => (hr i hi).sub hs

theorem Inp.right {L A : List (Nat × Obj)} {v : Value} {bs : List UInt8} (h : Inp L v bs) : Inp (A ++ L) v bs := h.sub fun _ hp => List.mem_append_right _ hp

theorem Inp.tail {L : List (Nat × Obj)} {x : Nat × Obj} {v : Value} {bs : List UInt8} (h : Inp L v bs) : Inp (x :: L) v bs := h.sub fun _ hp => .tail _ hp

theorem Inp.len {L : List (Nat × Obj)} {v : Value} {bs : List UInt8} (h : Inp L v bs) : ∃ a c, v = .slice a bs.length c ∧ bs.length ≤ c := by
  cases h with
  | nil => exact ⟨_, _, rfl, by simp⟩
  | empty a c => exact ⟨_, _, rfl, by simp⟩
  | blk b off c bs hc hr => exact ⟨_, _, rfl, hc⟩

theorem Inp.src [Strm] {w : World} {L : List (Nat × Obj)} {v : Value} {bs : List UInt8} (H : SL w L) (h : Inp L v bs) : Src w 1 v bs.length (bs.flatMap gB) := by
  cases h with
  | nil => exact .nil _
  | empty a c => exact .slice _ _ _ _ (by simp) fun i v hi => by simp at hi
  | blk b off c bs hc hr =>
    refine .slice _ _ _ _ (by rw [gB_map]; simp) fun i v hi => ?_
    rw [gB_map] at hi
    have hlt : i < bs.length := by
      rcases Nat.lt_or_ge i bs.length with h | h
      · exact h
      · rw [List.getElem?_eq_none (by simpa using h)] at hi; cases hi
    have e : (bs.map BV)[i]? = some (BV (bs.getD i 0)) := by simp [hlt]
    rw [e] at hi
    cases hi
    rw [add_none]
    exact Rd.cell H (hr i hlt)

theorem Inp.take {L : List (Nat × Obj)} {a : Option Addr} {n c k : Nat} {bs : List UInt8} (h : Inp L (.slice a n c) bs) (hk : k ≤ n) : Inp L (.slice (cutAddr a 0 c 1) (k - 0) (c - 0)) (bs.take k) := by
  cases h with
  | nil =>
    obtain rfl : k = 0 := by omega
    exact .nil
  | empty a c =>
    obtain rfl : k = 0 := by omega
    unfold cutAddr
    split
    · exact .empty _ _
    · exact .empty _ _
  | blk b off c bs hc hr =>
    have e : cutAddr (some (⟨b, off, none⟩ : Addr)) 0 c 1 = some ⟨b, off, none⟩ := by
      unfold cutAddr
      split
      · rfl
      · simp [add_none]
    have hl : (bs.take k).length = k := by rw [List.length_take]; omega
    have := Inp.blk (L := L) b off c (bs.take k) (by omega) fun i hi => by
      have := hr i (by omega)
      have e2 : (bs.take k).getD i 0 = bs.getD i 0 := by simp [List.getD_eq_getElem?_getD, show i < k by omega]
      rw [e2]; exact this
    rw [hl] at this
    rw [e]
    exact this

theorem Inp.drop {L : List (Nat × Obj)} {a : Option Addr} {n c k : Nat} {bs : List UInt8} (h : Inp L (.slice a n c) bs) (hk : k ≤ n) : Inp L (.slice (cutAddr a k c 1) (n - k) (c - k)) (bs.drop k) := by
  cases h with
  | nil =>
    obtain rfl : k = 0 := by omega
    exact .nil
  | empty a c =>
    obtain rfl : k = 0 := by omega
    unfold cutAddr
    split
    · exact .empty _ _
    · exact .empty _ _
  | blk b off c bs hc hr =>
    have hl : (bs.drop k).length = bs.length - k := List.length_drop
    by_cases hck : c = k
    · have e : cutAddr (some (⟨b, off, none⟩ : Addr)) k c 1 = some ⟨b, off, none⟩ := by simp [cutAddr, hck]
      have := Inp.blk (L := L) b off (c - k) (bs.drop k) (by omega) fun i hi => by omega
      rw [hl] at this
      rw [e]
      exact this
    · have e : cutAddr (some (⟨b, off, none⟩ : Addr)) k c 1 = some ⟨b, off + k, none⟩ := by simp [cutAddr, hck, add_none]
      have := Inp.blk (L := L) b (off + k) (c - k) (bs.drop k) (by omega) fun i hi => by
        have h2 := hr (k + i) (by omega)
        have e2 : (bs.drop k).getD i 0 = bs.getD (k + i) 0 := by simp [List.getD_eq_getElem?_getD, List.getElem?_drop]
        rw [e2, Nat.add_assoc]; exact h2
      rw [hl] at this
      rw [e]
      exact this

/-- A slice of bytes of one's own, as one that is read. -/
theorem Slc.inp {L B : List (Nat × Obj)} {T : TypeId} {v : Value} {bs : List UInt8} (h : Slc gB 1 T v bs B) : Inp (B ++ L) v bs := by
  cases h with
  | nil => exact .nil
  | blk b xs cap spare fr h1 h2 h3 =>
    refine .blk b 0 cap bs h2 fun i hi => ?_
    rw [Nat.zero_add]
    refine Rd.mk (.head _) ?_
    rw [List.getElem?_toArray, gB_map, List.getElem?_append_left (by simpa using hi)]
    simp [hi]

theorem Slc.cut0 {T : TypeId} {b n c : Nat} {xs : List UInt8} {B : List (Nat × Obj)} (h : Slc gB 1 T (.slice (some ⟨b, 0, none⟩) n c) xs B) (hn : 0 < xs.length) :
    Slc gB 1 T (.slice (cutAddr (some ⟨b, 0, none⟩) 0 c 1) (0 - 0) (c - 0)) [] B := by
  obtain ⟨b', c', sp, fr, e1, rfl, h1, h2, h3⟩ := h.shape hn
  cases e1
  have e : cutAddr (some (⟨b, 0, none⟩ : Addr)) 0 c 1 = some ⟨b, 0, none⟩ := by
    unfold cutAddr
    split
    · rfl
    · simp [add_none]
  rw [e]
  have := Slc.blk (g := gB) (sz := 1) (T := T) b [] c (xs.flatMap gB ++ sp) fr (by rw [List.length_append, flatMap_length (g := gB) (sz := 1) (fun _ => rfl)]; simp only [List.length_nil]; omega) (by simp) h3
  simpa using this

theorem Inp.reads {L : List (Nat × Obj)} {a : Option Addr} {n c : Nat} {xs : List UInt8} (h : Inp L (.slice a n c) xs) :
    match (generalizing := false) a with | none => xs.map BV = [] | some ad => ∀ i v, (xs.map BV)[i]? = some v → Rd L (ad.add i) v := by
  cases h with
  | nil => rfl
  | empty a c => intro i v hi; simp at hi
  | blk b off c xs hc hr =>
    intro i v hi
    have hlt : i < xs.length := by
      rcases Nat.lt_or_ge i xs.length with h | h
      · exact h
      · rw [List.getElem?_eq_none (by simpa using h)] at hi; cases hi
    have e : (xs.map BV)[i]? = some (BV (xs.getD i 0)) := by simp [hlt]
    rw [e] at hi
    cases hi
    rw [add_none]
    exact hr i hlt

end Go.Proofs.YtdppnaahdilkcaaGreatDoor.V
end

section
/-
  The engine: from a row's premise to the walk's, and back: the blocks that were there when the call began, bytes and arrays of bytes that came in.
-/
namespace Go.Proofs.YtdppnaahdilkcaaGreatDoor.V
open Go.ChangeShapes Go.WideShapes Go.ChangeAt Go.RowKit

theorem len63 : maxLen ≤ 9223372036854775807 := by unfold maxLen; omega

/-- The streams of this world. -/
@[reducible] def streams (w : World) : Strm := ⟨w.tape, w.os, w.output⟩

/-- All blocks of a world. -/
def oldL (w : World) : List (Nat × Obj) := w.heap.toList.zipIdx.map fun p => (p.2, p.1)

theorem mem_oldL {w : World} {b : Nat} {o : Obj} : (b, o) ∈ oldL w ↔ w.heap[b]? = some o := by
  unfold oldL
  rw [List.mem_map]
  constructor
  · rintro ⟨⟨o', b'⟩, hm, he⟩
    obtain ⟨rfl, rfl⟩ := Prod.mk.inj he
    have := List.mem_zipIdx_iff_getElem?.1 hm
    simpa using this
  · intro h
    exact ⟨(o, b), List.mem_zipIdx_iff_getElem?.2 (by simpa using h), rfl⟩

theorem old_SL (w : World) : @SL (streams w) w (oldL w) := by
  refine ⟨fun p hp => ?_, ?_, rfl, rfl, rfl⟩
  · obtain ⟨b, o⟩ := p
    exact mem_oldL.1 hp
  · have : (oldL w).map Prod.fst = w.heap.toList.zipIdx.map Prod.snd := by
      unfold oldL
      rw [List.map_map]
      rfl
    rw [this, List.zipIdx_map_snd]
    exact List.nodup_range'

theorem old_below {W w : World} (h : @SL (streams W) w (oldL W)) : Below W.heap.size W w := by
  have hb : ∀ k, k < W.heap.size → w.heap[k]? = W.heap[k]? := fun k hk => by
    have hm : (k, W.heap[k]) ∈ oldL W := mem_oldL.2 (by simp [hk])
    rw [h.1 _ hm]
    simp [hk]
  refine ⟨h.2.2.2.1, h.2.2.1, h.2.2.2.2, ?_, hb⟩
  rcases Nat.lt_or_ge w.heap.size W.heap.size with hlt | hge
  · have := hb w.heap.size hlt
    rw [Array.getElem?_eq_none (Nat.le_refl _)] at this
    simp [hlt] at this
  · exact hge

theorem old_rd {w : World} {b off : Nat} {v : Value} (h : w.cell? ⟨b, off, none⟩ = some v) : Rd (oldL w) ⟨b, off, none⟩ v := by
  unfold World.cell? at h
  cases hb : w.heap[b]? with
  | none => simp [hb] at h
  | some o =>
    cases o with
    | cells c t fr =>
      rw [hb] at h
      simp at h
      exact Rd.mk (mem_oldL.2 hb) h
    | map _ _ => simp [hb] at h
    | chan _ => simp [hb] at h
    | _ => simp [hb] at h

section
variable {H : Type} {enc : TypeId × Value → H} {P : Program} {w : World}

theorem u8_of {z : Int} (h : (Lit.int .u8 z).wf = true) : 0 ≤ z ∧ z ≤ 255 := by
  simpa [Lit.wf, IntKind.min, IntKind.max, IntKind.signed, IntKind.bits] using h

theorem u8_val {z : Int} (h : (Lit.int .u8 z).wf = true) : Value.int .u8 z = .int .u8 ((UInt8.ofNat z.toNat).toNat : Int) := by
  obtain ⟨h1, h2⟩ := u8_of h
  congr 1
  have : (UInt8.ofNat z.toNat).toNat = z.toNat % 256 := by simp
  rw [this]
  omega

/-- Bytes that came in: nil, or read where they lie. -/
theorem bytes_in {t e : TypeId} {v : Value} {d : DataW H} {ps : List MemPlace} (ht : P.underlying t = some (.slice e)) (he : P.underlying e = some (.int .u8)) (hc : P.cellsOf e = 1)
    (hs : ∃ a len cap, v = .slice a len cap) (h : DataW.Trod enc P w 0 (fun _ => true) true t v d ps) :
    ∃ bs : List UInt8, bs.length ≤ maxLen ∧ Inp (oldL w) v bs := by
  obtain ⟨a0, len0, cap0, rfl⟩ := hs
  obtain ⟨fuel, hf⟩ := h
  rcases open_ints ht he hc hf with ⟨hcs, _⟩ | ⟨x, l, c, zs, hcs, _, hl, hm, hz, _, hcell, hwz⟩
  · simp [Value.cells] at hcs
    obtain ⟨rfl, rfl, rfl⟩ := hcs
    exact ⟨[], by simp, .nil⟩
  · simp [Value.cells] at hcs
    obtain ⟨rfl, rfl, rfl⟩ := hcs
    simp only [if_true] at hz
    refine ⟨(zs.take len0).map fun z => UInt8.ofNat z.toNat, by rw [List.length_map, List.length_take]; omega, ?_⟩
    have hlen : ((zs.take len0).map fun z => UInt8.ofNat z.toNat).length = len0 := by rw [List.length_map, List.length_take]; omega
    obtain ⟨b, off, spot⟩ := x
    by_cases h0 : len0 = 0
    · subst h0
      exact .empty _ _
    · have hc0 := hcell 0 (by omega)
      have hspot : spot = none := by simpa [Addr.add] using World.cell?_spot hc0
      subst hspot
      have := Inp.blk (L := oldL w) b off cap0 ((zs.take len0).map fun z => UInt8.ofNat z.toNat) (by omega) fun i hi => ?_
      · rw [hlen] at this; exact this
      rw [hlen] at hi
      have hci := hcell i (by omega)
      rw [add_none] at hci
      have hw := hwz (zs.getD i 0) (by
        have : i < zs.length := by omega
        simp [List.getD_eq_getElem?_getD, this])
      rw [u8_val hw] at hci
      have e : ((zs.take len0).map fun z => UInt8.ofNat z.toNat).getD i 0 = UInt8.ofNat (zs.getD i 0).toNat := by
        have : i < zs.length := by omega
        simp [List.getD_eq_getElem?_getD, hi, this]
      rw [e]
      exact old_rd hci

/-- The cells of a list, one by one. -/
theorem cell_of_chunk {cs : List Value} {i : Nat} {v : Value} (h : (cs.drop i).take 1 = [v]) : cs[i]? = some v := by
  have := congrArg (·[0]?) h
  simpa [List.getElem?_take, List.getElem?_drop] using this

/-- An array of bytes that came in. -/
theorem arr_in {t e n base : Nat} {v : Value} {d : DataW H} {ps : List MemPlace} (ht : P.underlying t = some (.array n e)) (he : P.underlying e = some (.int .u8)) (hc : P.cellsOf e = 1) (hct : P.cellsOf t = n)
    (hval : Value.okWide P w .any base t v) (h : DataW.Trod enc P w 0 (fun _ => true) true t v d ps) : ∃ bs : List UInt8, bs.length = n ∧ v = .agg (bs.map fun b => Value.int .u8 (b.toNat : Int)).toArray := by
  simp only [Value.okWide, ht] at hval
  obtain ⟨cs, rfl, hsz, _⟩ := hval
  rw [hct] at hsz
  obtain ⟨fuel, hf⟩ := h
  cases fuel with
  | zero => simp [DataW.trod] at hf
  | succ fuel =>
    simp only [DataW.trod, ht, hc, hct, Nat.mul_one, Value.cells] at hf
    split at hf
    · obtain ⟨xs, hm, _⟩ := Option.map_eq_some_iff.1 hf
      have each : ∀ i, i < n → ∃ b : UInt8, cs.toList[i]? = some (Value.int .u8 (b.toNat : Int)) := fun i hi => by
        obtain ⟨b, _, hb⟩ := Lib.mapM_at hm i i (by simp [hi])
        obtain ⟨z, hz, _, hw⟩ := DataW.trod_int he hb
        exact ⟨UInt8.ofNat z.toNat, by rw [cell_of_chunk hz, u8_val hw]⟩
      refine ⟨cs.toList.map fun v => match v with | .int _ z => UInt8.ofNat z.toNat | _ => 0, by simp [hsz], ?_⟩
      congr 1
      apply Array.ext'
      simp only [List.map_map]
      apply List.ext_getElem?
      intro i
      by_cases hi : i < n
      · obtain ⟨b, hb⟩ := each i hi
        rw [List.getElem?_map, hb]
        simp
      · rw [List.getElem?_eq_none (by simp; omega), List.getElem?_eq_none (by simp; omega)]
    · cases hf

/-- A table of rows of integers that reads as it is listed. -/
theorem cells_of_tab2 {sp : Nat → Bool} {held : Bool} {base fuel t e q n m : Nat} {k : IntKind} {cs : List Value} {rows : List (List Int)} {p : List MemPlace}
    (ht : P.underlying t = some (.array n e)) (he : P.underlying e = some (.array m q)) (hq : P.underlying q = some (.int k)) (hcq : P.cellsOf q = 1) (hce : P.cellsOf e = m)
    (h : DataW.trod enc P w base sp held fuel t cs = some (.agg (rows.map (Lib.tabData k)), p)) :
    ∀ i j row z, rows[i]? = some row → row[j]? = some z → cs[i * m + j]? = some (.int k z) := by
  cases fuel with
  | zero => simp [DataW.trod] at h
  | succ fuel =>
    simp only [DataW.trod, ht, hce] at h
    split at h
    · obtain ⟨xs, hm, hx⟩ := Option.map_eq_some_iff.1 h
      have hxs : xs.map (·.1) = rows.map (Lib.tabData k) := by
        have := congrArg Prod.fst hx
        simpa using this
      have hxl : xs.length = n := by simpa using Lib.mapM_length hm
      have hrl : rows.length = n := by
        have := congrArg List.length hxs
        simp at this
        omega
      intro i j row z hi hj
      have hin : i < n := by
        rcases Nat.lt_or_ge i n with h | h
        · exact h
        · rw [List.getElem?_eq_none (by omega)] at hi; cases hi
      obtain ⟨b, hb, hf⟩ := Lib.mapM_at hm i i (by simp [hin])
      have h2 : (xs.map (·.1))[i]? = some b.1 := by simp [hb]
      rw [hxs, List.getElem?_map, hi] at h2
      simp only [Option.map_some, Option.some.injEq] at h2
      obtain ⟨b1, b2⟩ := b
      simp only at h2
      subst h2
      have h3 := Lib.cells_of_tab he hq hcq hce hf
      have h4 := congrArg (·[j]?) h3
      simp only [List.getElem?_map, hj, Option.map_some] at h4
      rw [List.getElem?_take] at h4
      split at h4
      · rw [List.getElem?_drop] at h4; exact h4
      · cases h4
    · cases h
end
end Go.Proofs.YtdppnaahdilkcaaGreatDoor.V
end

section
/-
  The engine: slices that came in, whose elements are of one cell each: bytes' slices, integers, bools, strings.
-/
namespace Go.Proofs.YtdppnaahdilkcaaGreatDoor.V
open Go.ChangeShapes Go.WideShapes Go.ChangeAt Go.RowKit

/-- A slice that came in, element by element: R tells what an element's cell is. -/
inductive Els {α : Type} (L : List (Nat × Obj)) (R : Value → α → Prop) : Value → List α → Prop where
  | nil : Els L R (.slice none 0 0) []
  | empty (a : Addr) (c : Nat) : Els L R (.slice (some a) 0 c) []
  | blk (b off c : Nat) (xs : List α) : xs.length ≤ c → (∀ i x, xs[i]? = some x → ∃ v, Rd L ⟨b, off + i, none⟩ v ∧ R v x) → Els L R (.slice (some ⟨b, off, none⟩) xs.length c) xs

section
variable {α : Type} {L L' : List (Nat × Obj)} {R R' : Value → α → Prop} {v : Value} {xs : List α}

theorem Els.sub (h : Els L R v xs) (hs : ∀ p ∈ L, p ∈ L') (hR : ∀ v x, R v x → R' v x) : Els L' R' v xs := by
  cases h with
  | nil => exact .nil
  | empty a c => exact .empty a c
  | blk b off c xs hc hr =>
    refine .blk b off c xs hc fun i x hi => ?_
    obtain ⟨v, h1, h2⟩ := hr i x hi
    exact ⟨v, h1.sub hs, hR v x h2⟩

theorem Els.len (h : Els L R v xs) : ∃ a c, v = .slice a xs.length c ∧ xs.length ≤ c := by
  cases h with
  | nil => exact ⟨_, _, rfl, by simp⟩
  | empty a c => exact ⟨_, _, rfl, by simp⟩
  | blk b off c xs hc hr => exact ⟨_, _, rfl, hc⟩

/-- What is read at an index. -/
theorem Els.at {a : Option Addr} {n c i : Nat} {x : α} (h : Els L R (.slice a n c) xs) (hi : xs[i]? = some x) : ∃ b off v, a = some ⟨b, off, none⟩ ∧ Rd L ⟨b, off + i, none⟩ v ∧ R v x := by
  cases h with
  | nil => simp at hi
  | empty a c => simp at hi
  | blk b off c xs hc hr =>
    obtain ⟨v, h1, h2⟩ := hr i x hi
    exact ⟨b, off, v, rfl, h1, h2⟩
end

section
variable {H : Type} {enc : TypeId × Value → H} {P : Program} {w : World}

theorem els_in {α : Type} [Inhabited α] {R : Value → α → Prop} {t e : TypeId} {v : Value} {d : DataW H} {ps : List MemPlace} (ht : P.underlying t = some (.slice e)) (hc : P.cellsOf e = 1)
    (hR : ∀ (n : Nat) (u : Value) (x : DataW H × List MemPlace), DataW.trod enc P w 0 (fun _ => true) true n e [u] = some x → ∃ y, R u y)
    (hs : ∃ a len cap, v = .slice a len cap) (h : DataW.Trod enc P w 0 (fun _ => true) true t v d ps) : ∃ xs : List α, xs.length ≤ maxLen ∧ Els (oldL w) R v xs := by
  obtain ⟨a0, len0, cap0, rfl⟩ := hs
  obtain ⟨fuel, hf⟩ := h
  rcases Go.Deep.open_slice1 ht hc hf with ⟨hcs, _⟩ | ⟨a, len, cap, m, n, V, D, Pl, hcs, _, hl, hm, hmm, _, hx⟩
  · simp [Value.cells] at hcs
    obtain ⟨rfl, rfl, rfl⟩ := hcs
    exact ⟨[], by simp, .nil⟩
  · simp [Value.cells] at hcs
    obtain ⟨rfl, rfl, rfl⟩ := hcs
    simp only [if_true] at hmm
    obtain ⟨g, hg⟩ := Go.Deep.choose_lt (α := α) (n := len0) (p := fun i y => R (V i) y) fun i hi => hR n (V i) _ (hx i (by omega)).2
    have hlen : ((List.range len0).map g).length = len0 := by simp
    refine ⟨(List.range len0).map g, by rw [hlen]; omega, ?_⟩
    by_cases h0 : len0 = 0
    · subst h0
      exact .empty _ _
    · obtain ⟨b, off, spot⟩ := a
      have hspot : spot = none := by simpa [Addr.add] using World.cell?_spot (hx 0 (by omega)).1
      subst hspot
      have := Els.blk (L := oldL w) (R := R) b off cap0 ((List.range len0).map g) (by omega) fun i x hi => ?_
      · rw [hlen] at this; exact this
      · have hi' : i < len0 := by
          rcases Nat.lt_or_ge i len0 with h | h
          · exact h
          · rw [List.getElem?_eq_none (by omega)] at hi; cases hi
        have hxv : x = g i := by
          rw [List.getElem?_map, List.getElem?_range hi'] at hi
          simpa using hi.symm
        subst hxv
        refine ⟨V i, old_rd ?_, hg i hi'⟩
        have := (hx i (by omega)).1
        rwa [add_none] at this

/-- Bytes, as an element's cell. -/
theorem bytes_cell {t e n : Nat} {u : Value} {x : DataW H × List MemPlace} (ht : P.underlying t = some (.slice e)) (he : P.underlying e = some (.int .u8)) (hc : P.cellsOf e = 1)
    (h : DataW.trod enc P w 0 (fun _ => true) true n t [u] = some x) : ∃ bs : List UInt8, bs.length ≤ maxLen ∧ Inp (oldL w) u bs := by
  have hs : ∃ a len cap, u = .slice a len cap := by
    rcases open_ints ht he hc h with ⟨hcs, _⟩ | ⟨y, l, c, zs, hcs, _⟩
    · simp at hcs; exact ⟨_, _, _, hcs⟩
    · simp at hcs; exact ⟨_, _, _, hcs⟩
  obtain ⟨a, l, c, rfl⟩ := hs
  exact bytes_in (d := x.1) (ps := x.2) ht he hc ⟨a, l, c, rfl⟩ ⟨n, h⟩

end
end Go.Proofs.YtdppnaahdilkcaaGreatDoor.V
end

section
/-
  The engine: slices that came in, whose elements are structs of several cells.
-/
namespace Go.Proofs.YtdppnaahdilkcaaGreatDoor.V
open Go.ChangeShapes Go.WideShapes Go.ChangeAt Go.RowKit

/-- A slice that came in, element by element: R tells what lies from a place on (the block, the cell). -/
inductive ElsA {α : Type} (sz : Nat) (R : Nat → Nat → α → Prop) : Value → List α → Prop where
  | nil : ElsA sz R (.slice none 0 0) []
  | empty (a : Addr) (c : Nat) : ElsA sz R (.slice (some a) 0 c) []
  | blk (b off c : Nat) (xs : List α) : xs.length ≤ c → (∀ i x, xs[i]? = some x → R b (off + i * sz) x) → ElsA sz R (.slice (some ⟨b, off, none⟩) xs.length c) xs

section
variable {α : Type} {sz : Nat} {R R' : Nat → Nat → α → Prop} {v : Value} {xs : List α}

theorem ElsA.sub (h : ElsA sz R v xs) (hR : ∀ b off x, R b off x → R' b off x) : ElsA sz R' v xs := by
  cases h with
  | nil => exact .nil
  | empty a c => exact .empty a c
  | blk b off c xs hc hr => exact .blk b off c xs hc fun i x hi => hR _ _ _ (hr i x hi)

theorem ElsA.len (h : ElsA sz R v xs) : ∃ a c, v = .slice a xs.length c ∧ xs.length ≤ c := by
  cases h with
  | nil => exact ⟨_, _, rfl, by simp⟩
  | empty a c => exact ⟨_, _, rfl, by simp⟩
  | blk b off c xs hc hr => exact ⟨_, _, rfl, hc⟩

/-- What lies at an index. -/
theorem ElsA.at {a : Option Addr} {n c i : Nat} {x : α} (h : ElsA sz R (.slice a n c) xs) (hi : xs[i]? = some x) : ∃ b off, a = some ⟨b, off, none⟩ ∧ R b (off + i * sz) x := by
  cases h with
  | nil => simp at hi
  | empty a c => simp at hi
  | blk b off c xs hc hr => exact ⟨b, off, rfl, hr i x hi⟩
end

theorem i64_of {z : Int} (h : (Lit.int .i64 z).wf = true) : -9223372036854775808 ≤ z ∧ z ≤ 9223372036854775807 := by
  simpa [Lit.wf, IntKind.min, IntKind.max, IntKind.signed, IntKind.bits] using h

section
variable {H : Type} {enc : TypeId × Value → H} {P : Program} {w : World}

/-- What a reading holds, at once. -/
def partsOf {H : Type} : DataW H → List (DataW H)
  | .slice elems _ => elems
  | .agg parts => parts
  | _ => []

theorem elsA_in {α : Type} [Inhabited α] {sz : Nat} {R : Nat → Nat → α → Prop} {t e : TypeId} {v : Value} {d : DataW H} {ps : List MemPlace} (ht : P.underlying t = some (.slice e)) (hc : P.cellsOf e = sz) (hpos : 0 < sz)
    (hR : ∀ (n b off : Nat) (cs : List Value) (x : DataW H × List MemPlace), cs.length = sz → (∀ (j : Nat) v, cs[j]? = some v → Rd (oldL w) ⟨b, off + j, none⟩ v) → DataW.trod enc P w 0 (fun _ => true) true n e cs = some x → x.1 ∈ partsOf d → ∃ y, R b off y)
    (hs : ∃ a len cap, v = .slice a len cap) (h : DataW.Trod enc P w 0 (fun _ => true) true t v d ps) : ∃ xs : List α, xs.length ≤ maxLen ∧ ElsA sz R v xs := by
  obtain ⟨a0, len0, cap0, rfl⟩ := hs
  obtain ⟨fuel, hf⟩ := h
  rcases Go.Deep.open_slice ht hf with ⟨hcs, _⟩ | ⟨a, len, cap, m, n, D, Pl, hcs, _, hl, hm, hmm, hd, hx⟩
  · simp [Value.cells] at hcs
    obtain ⟨rfl, rfl, rfl⟩ := hcs
    exact ⟨[], by simp, .nil⟩
  · simp [Value.cells] at hcs
    obtain ⟨rfl, rfl, rfl⟩ := hcs
    simp only [if_true] at hmm
    by_cases h0 : len0 = 0
    · subst h0
      exact ⟨[], by simp, .empty _ _⟩
    obtain ⟨b, off, spot⟩ := a
    have hspot : spot = none := by
      obtain ⟨cs', h1, _⟩ := hx 0 (by omega)
      obtain ⟨_, hl1, hc1⟩ := World.cells?_some h1
      rw [hc] at hl1 hc1
      have h2 := hc1 0 hpos
      rw [List.getElem?_eq_getElem (by omega)] at h2
      simpa [Addr.add] using World.cell?_spot h2
    subst hspot
    obtain ⟨g, hg⟩ := Go.Deep.choose_lt (α := α) (n := len0) (p := fun i y => R b (off + i * sz) y) fun i hi => by
      obtain ⟨cs', h1, h2⟩ := hx i (by omega)
      obtain ⟨_, hl1, hc1⟩ := World.cells?_some h1
      rw [hc] at hl1 hc1
      have hd1 := congrArg Prod.fst hd
      simp only at hd1
      refine hR n b (off + i * sz) cs' _ hl1 (fun j v hj => ?_) h2 (by rw [hd1]; exact List.mem_map_of_mem (List.mem_range.2 hi))
      have hlt : j < sz := by
        rcases Nat.lt_or_ge j sz with h | h
        · exact h
        · rw [List.getElem?_eq_none (by omega)] at hj; cases hj
      have h3 := hc1 j hlt
      rw [add_none, add_none, hj] at h3
      exact old_rd h3
    have hlen : ((List.range len0).map g).length = len0 := by simp
    refine ⟨(List.range len0).map g, by rw [hlen]; omega, ?_⟩
    have := ElsA.blk (sz := sz) (R := R) b off cap0 ((List.range len0).map g) (by omega) fun i x hi => ?_
    · rw [hlen] at this; exact this
    · have hi' : i < len0 := by
        rcases Nat.lt_or_ge i len0 with h | h
        · exact h
        · rw [List.getElem?_eq_none (by omega)] at hi; cases hi
      have hxv : x = g i := by
        rw [List.getElem?_map, List.getElem?_range hi'] at hi
        simpa using hi.symm
      subst hxv
      exact hg i hi'

/-- A struct's fields, of one cell each. -/
theorem fields_at {ts n : Nat} {fs : Array Field} {cs : List Value} {x : DataW H × List MemPlace} (hs : P.underlying ts = some (.struct fs)) (hone : Go.Deep.oneCellFields P fs = true) (hC : P.cellsOf ts = fs.size)
    (h : DataW.trod enc P w 0 (fun _ => true) true n ts cs = some x) : ∃ m, ∀ (i : Nat) (f : Field), fs[i]? = some f → ∃ v y, cs[i]? = some v ∧ DataW.trod enc P w 0 (fun _ => true) true m f.type [v] = some y ∧ y.1 ∈ partsOf x.1 := by
  obtain ⟨xs, m, _, rfl, hl, hxl, hf⟩ := DataW.trod_struct hs h
  refine ⟨m, fun i f hi => ?_⟩
  have hlt : i < fs.size := (Array.getElem?_eq_some_iff.1 hi).1
  obtain ⟨ho, hc1⟩ := Go.Deep.hone_of hone i f hi
  have g := hf i f hi
  rw [ho, hc1, Go.Deep.take1_drop cs i undef (by omega)] at g
  rw [List.getElem?_eq_getElem (by omega)] at g
  exact ⟨cs.getD i undef, _, by simp [List.getD, List.getElem?_eq_getElem (show i < cs.length by omega)], g, List.mem_map_of_mem (List.getElem_mem _)⟩

/-- An integer, as an element's cell. -/
theorem int_cell {t n : Nat} {k : IntKind} {u : Value} {x : DataW H × List MemPlace} (ht : P.underlying t = some (.int k)) (h : DataW.trod enc P w 0 (fun _ => true) true n t [u] = some x) :
    ∃ z, u = .int k z ∧ (Lit.int k z).wf = true := by
  obtain ⟨z, hz, _, hw⟩ := DataW.trod_int ht h
  exact ⟨z, by simpa using hz, hw⟩

/-- Integers that came in. -/
def IntsIn (k : IntKind) (L : List (Nat × Obj)) : Value → List Int → Prop := Els L fun v z => v = .int k z ∧ (Lit.int k z).wf = true

theorem ints_in {t e : TypeId} {k : IntKind} {v : Value} {d : DataW H} {ps : List MemPlace} (ht : P.underlying t = some (.slice e)) (he : P.underlying e = some (.int k)) (hc : P.cellsOf e = 1)
    (hs : ∃ a len cap, v = .slice a len cap) (h : DataW.Trod enc P w 0 (fun _ => true) true t v d ps) : ∃ zs : List Int, zs.length ≤ maxLen ∧ IntsIn k (oldL w) v zs :=
  els_in ht hc (fun _ _ _ h => int_cell he h) hs h

theorem ints_cell {t e n : Nat} {k : IntKind} {u : Value} {x : DataW H × List MemPlace} (ht : P.underlying t = some (.slice e)) (he : P.underlying e = some (.int k)) (hc : P.cellsOf e = 1)
    (h : DataW.trod enc P w 0 (fun _ => true) true n t [u] = some x) : ∃ zs : List Int, zs.length ≤ maxLen ∧ IntsIn k (oldL w) u zs := by
  have hs : ∃ a len cap, u = .slice a len cap := by
    rcases open_ints ht he hc h with ⟨hcs, _⟩ | ⟨y, l, c, zs, hcs, _⟩
    · simp at hcs; exact ⟨_, _, _, hcs⟩
    · simp at hcs; exact ⟨_, _, _, hcs⟩
  obtain ⟨a, l, c, rfl⟩ := hs
  exact ints_in (d := x.1) (ps := x.2) ht he hc ⟨a, l, c, rfl⟩ ⟨n, h⟩

/-- Bools that came in. -/
def BoolsIn (L : List (Nat × Obj)) : Value → List Bool → Prop := Els L fun v z => v = .bool z

theorem bool_cell {t n : Nat} {u : Value} {x : DataW H × List MemPlace} (ht : P.underlying t = some .bool) (h : DataW.trod enc P w 0 (fun _ => true) true n t [u] = some x) : ∃ z, u = .bool z := by
  cases n with
  | zero => simp [DataW.trod] at h
  | succ n =>
    unfold DataW.trod at h
    rw [ht] at h
    split at h <;> simp_all

theorem bools_in {t e : TypeId} {v : Value} {d : DataW H} {ps : List MemPlace} (ht : P.underlying t = some (.slice e)) (he : P.underlying e = some .bool) (hc : P.cellsOf e = 1)
    (hs : ∃ a len cap, v = .slice a len cap) (h : DataW.Trod enc P w 0 (fun _ => true) true t v d ps) : ∃ zs : List Bool, zs.length ≤ maxLen ∧ BoolsIn (oldL w) v zs :=
  els_in ht hc (fun _ _ _ h => bool_cell he h) hs h

end
end Go.Proofs.YtdppnaahdilkcaaGreatDoor.V
end

section
/-
  The engine: function values; literals of elements of several cells, and of none; clear; a slice against nil.
-/
namespace Go.Proofs.YtdppnaahdilkcaaGreatDoor.V

theorem Upd.skip {b : Nat} {o o' : Obj} {l l' : List (Nat × Obj)} (h : Upd b o o' l l') : ∀ B : List (Nat × Obj), Upd b o o' (B ++ l) (B ++ l')
  | [] => h
  | _ :: B => (h.skip B).tail

theorem Inp.none_eq {L : List (Nat × Obj)} {n c : Nat} {bs : List UInt8} (h : Inp L (.slice none n c) bs) : bs = [] := by
  generalize hv : Value.slice none n c = v at h
  cases h with
  | nil => rfl
  | empty a c => cases hv
  | blk b off c bs hc hr => cases hv

section
variable {P : Program} {w : World} {e : Env} {ty t t2 : TypeId} {x y z : Operand} {v u : Value} {L L' B : List (Nat × Obj)}

theorem Ev.makeFunc {fn : Fn} {l1 l2 : List Operand} {vs us : List Value} (h1 : e.vals l1 = some vs) (h2 : e.vals l2 = some us) : Ev P w e (.makeFunc fn l1.toArray l2.toArray) ty (.func fn vs.toArray us.toArray) := .of fun ρ hρ _ _ _ _ => by
  have a1 := Env.vals_map hρ h1
  have a2 := Env.vals_map hρ h2
  simp [execOp, Instr.makeFunc, a1, a2]

theorem Ex.buildSlP [Strm] {len sz : Nat} {l : List (Nat × Operand)} {ps : List (Nat × Value)} {cs : List Value} {T : TypeId} {zv : Value} (H : SL w L) (hl : e.partsI l = some ps) (ht : slT P t = some (T, sz)) (hz : zeroT P T = some zv)
    (hf : fillP (fun i => some (i * sz, sz)) ((List.range (len * sz)).map (zv.cells[· % zv.cells.size]!)).toArray ps = some cs.toArray) (h0 : 0 < len * sz) (hlen : len * sz ≤ 16777216) :
    Ex P w e (.buildSlice t len l.toArray) ty fun v w' => ∃ b, v = .slice (some ⟨b, 0, none⟩) len len ∧ SL w' ((b, .cells cs.toArray T (0, 0)) :: L) := .of fun ρ hρ _ _ _ _ => by
  obtain ⟨hu, inf, hi, hs⟩ := slT_spec ht
  have h1 := Env.partsI_map hρ hl
  simp only [zeroT, hi, Option.bind_some] at hz
  subst hs
  have h24 : ¬ (len * inf.size > 2 ^ 24) := by omega
  have hne : ¬ (len * inf.size = 0) := by omega
  have hfill := fill_of_fillP _ _ _ _ hf
  have he : ((List.range (len * inf.size)).map (zv.cells[· % zv.cells.size]!)).toArray = (Array.range (len * inf.size)).map (zv.cells[· % zv.cells.size]!) := by
    apply Array.ext'
    simp
  rw [he] at hfill
  simp only [execOp, Instr.buildSlice, Sem.run_bind, run_underlying hu, Result.andThen, sizeOf, typeInfo, run_program, hi, Sem.run_pure, h24, hne, if_false, zeroValue, hz]
  simp only [List.map_toArray, h1] at *
  rw [hfill]
  simp only [newRow, Sem.run_bind, run_newObj, Result.andThen, Sem.run_pure]
  exact ⟨w.heap.size, rfl, H.alloc _⟩

theorem Ex.buildSl0 [Strm] {sz : Nat} {T : TypeId} (H : SL w L) (ht : slT P t = some (T, sz)) :
    Ex P w e (.buildSlice t 0 #[]) ty fun v w' => ∃ b, v = .slice (some ⟨b, 0, none⟩) 0 0 ∧ SL w' ((b, .cells #[] T (0, 0)) :: L) := .of fun ρ hρ _ _ _ _ => by
  obtain ⟨hu, inf, hi, hs⟩ := slT_spec ht
  simp [execOp, Instr.buildSlice, run_underlying hu, sizeOf, typeInfo, hi, Instr.fill, newRow]
  have h := H.alloc (.cells #[] T (0, 0))
  have e0 : Array.map (fun _ => (default : Value)) (Array.range 0) = #[] := by
    apply Array.ext'
    simp
  refine ⟨w.heap.size, rfl, ?_⟩
  rw [e0]
  exact h

/-- The row of an empty literal, as a slice of one's own. -/
theorem Slc.lit0 {α : Type} {g : α → List Value} {sz : Nat} {T : TypeId} (b : Nat) : Slc g sz T (.slice (some ⟨b, 0, none⟩) 0 0) [] [(b, .cells #[] T (0, 0))] :=
  .blk b [] 0 [] (0, 0) (by simp) (by simp) (Thaw.zero _ _)

theorem run_equalIn_slNil {t el : TypeId} {a : Option Addr} {n c : Nat} (hu : P.underlying t = some (.slice el)) (d : Nat) : (Op.equalIn (d + 1) t (.slice a n c) (.slice none 0 0)).run P w = .ok a.isNone w := by
  have h1 := run_underlying (w := w) hu
  cases a <;> simp [Op.equalIn, h1]

theorem Ev.slNilEq {t' el : TypeId} {a : Option Addr} {n c : Nat} (hx : e.val x = some (.slice a n c)) (hy : e.val y = some (.slice none 0 0)) (hu : P.underlying t = some (.slice el)) :
    Ev P w e (.binOp .eql t x y t') ty (.bool a.isNone) := .of fun ρ hρ _ _ _ _ => by
  have h := run_equal_of (w := w) fun d => run_equalIn_slNil (a := a) (n := n) (c := c) hu d
  simp [execOp, hρ _ _ hx, hρ _ _ hy, eqGuard, binOp, h]

theorem Ev.slNilNe {t' el : TypeId} {a : Option Addr} {n c : Nat} (hx : e.val x = some (.slice a n c)) (hy : e.val y = some (.slice none 0 0)) (hu : P.underlying t = some (.slice el)) :
    Ev P w e (.binOp .neq t x y t') ty (.bool (!a.isNone)) := .of fun ρ hρ _ _ _ _ => by
  have h := run_equal_of (w := w) fun d => run_equalIn_slNil (a := a) (n := n) (c := c) hu d
  simp [execOp, hρ _ _ hx, hρ _ _ hy, eqGuard, binOp, h]

/-- x[:0] of a slice of one's own; and clear leaves it fit for that. -/
def cut0 (sz : Nat) : Value → Value
  | .slice a _ c => .slice (cutAddr a 0 c sz) (0 - 0) (c - 0)
  | v => v

theorem cutAddr_zero (a : Option Addr) (c sz : Nat) : cutAddr a 0 c sz = a := by
  unfold cutAddr
  split
  · rfl
  · cases a with
    | none => rfl
    | some a => simp [Addr.add]

theorem Ex.clear [Strm] {α : Type} {g : α → List Value} {sz : Nat} {T : TypeId} {zv : Value} {xs : List α} (H : SL w (B ++ L)) (hx : e.val x = some v) (hs : Slc g sz T v xs B) (hg : ∀ x, (g x).length = sz) (ht : slT P t = some (T, sz))
    (hz : zeroT P T = some zv) (hzs : zv.cells.size = sz) (hone : ∀ v ∈ zv.cells.toList, v.oneCell' = true) :
    Ex P w e (.call ⟨.builtin .clear, #[x], #[t]⟩) ty fun v' w' => v' = .tuple #[] ∧ ∃ B', Slc g sz T (cut0 sz v) [] B' ∧ SL w' (B' ++ L) := .of fun ρ hρ _ _ _ _ => by
  obtain ⟨hu, inf, hi, hsz⟩ := slT_spec ht
  have hz' := hz
  simp only [zeroT, hi, Option.bind_some] at hz'
  have fin : ∀ w', (Builtin.clear_ #[t] ty #[v]).run P w = .ok (.tuple #[]) w' → (∃ B', Slc g sz T (cut0 sz v) [] B' ∧ SL w' (B' ++ L)) →
      Lands P (fun v' w' => v' = .tuple #[] ∧ ∃ B', Slc g sz T (cut0 sz v) [] B' ∧ SL w' (B' ++ L)) ((execOp ρ ⟨‹_›, .call ⟨.builtin .clear, #[x], #[t]⟩, ty, ‹_›, ‹_›, ‹_›⟩).run P w) := fun w' hr h => by
    have e1 : (execOp ρ ⟨‹_›, .call ⟨.builtin .clear, #[x], #[t]⟩, ty, ‹_›, ‹_›, ‹_›⟩).run P w = .ok (.value (.tuple #[])) w' := by
      simp [execOp, resolve, invoke, builtin, hρ _ _ hx, hr]
    rw [e1]
    exact ⟨rfl, h⟩
  cases hs with
  | nil =>
    refine fin w (by simp [Builtin.clear_, run_underlying hu]) ⟨[], ?_, H⟩
    simp only [cut0, cutAddr_zero]
    exact .nil
  | blk b xs' cap spare fr hsp hle hfr =>
    have hxs := flatMap_length hg xs
    have hm : (b, Obj.cells (xs.flatMap g ++ spare).toArray T fr) ∈ [(b, Obj.cells (xs.flatMap g ++ spare).toArray T fr)] ++ L := .head _
    by_cases h0 : xs.length = 0
    · have : xs = [] := List.eq_nil_of_length_eq_zero h0
      subst this
      refine fin w (by simp [Builtin.clear_, run_underlying hu]) ⟨_, ?_, H⟩
      simp only [cut0, cutAddr_zero]
      exact .blk b [] cap spare fr hsp hle hfr
    · have hzc : (Builtin.zeroCells zv.cells xs.length).toList.length = xs.length * sz := by rw [zeroCells_len, hzs]
      have hmul : xs.length * sz ≤ cap * sz := Nat.mul_le_mul_right _ hle
      have h1c : ∀ c ∈ (Builtin.zeroCells zv.cells xs.length).toList, c.oneCell' = true := by
        intro c hc
        simp only [Builtin.zeroCells] at hc
        simp at hc
        obtain ⟨i, hi, rfl⟩ := hc
        by_cases hlt : i % zv.cells.size < zv.cells.size
        · exact hone _ (by simp [hlt])
        · have : zv.cells.size = 0 := by
            rcases Nat.eq_zero_or_pos zv.cells.size with h | h
            · exact h
            · exact absurd (Nat.mod_lt _ h) hlt
          rw [this, Nat.mul_zero] at hi
          omega
      obtain ⟨w', hr, h1, h3, hk⟩ := run_storeCells (P := P) (Builtin.zeroCells zv.cells xs.length).toList h1c w 0 0 _ (H.1 _ hm) (by simp only [List.size_toArray, List.length_append, hxs]; omega) (fun j h4 h5 => hfr.not j (by omega) (by omega))
      simp only [Nat.add_zero] at h1
      have hrun : (Builtin.clear_ #[t] ty #[.slice (some ⟨b, 0, none⟩) xs.length cap]).run P w = .ok (.tuple #[]) w' := by
        obtain ⟨k, hk⟩ : ∃ k, xs.length = k + 1 := ⟨xs.length - 1, by omega⟩
        rw [hk] at hr ⊢
        simp [Builtin.clear_, run_underlying hu, zeroValue, typeInfo, hi, hz', hr]
      refine fin w' hrun ⟨[(b, .cells ((Builtin.zeroCells zv.cells xs.length).toList ++ spare).toArray T fr)], ?_, ?_⟩
      · simp only [cut0, cutAddr_zero]
        have := Slc.blk (g := g) (sz := sz) (T := T) b [] cap ((Builtin.zeroCells zv.cells xs.length).toList ++ spare) fr (by rw [List.length_append, hzc]; simp only [List.length_nil]; omega) (by simp) hfr
        simpa using this
      · have e1 : putAt (xs.flatMap g ++ spare).toArray 0 (Builtin.zeroCells zv.cells xs.length).toList = ((Builtin.zeroCells zv.cells xs.length).toList ++ spare).toArray := by
          have := putAt_append (pre := []) (mid := xs.flatMap g) (post := spare) (vs := (Builtin.zeroCells zv.cells xs.length).toList) (off := 0) rfl (by rw [hzc, hxs])
          simpa using this
        rw [e1] at h1
        exact H.upd .head h1 h3 hk

/-- x[:0] of a slice of one's own, after clear. -/
theorem Ev.slSl0 {a : Option Addr} {len cap : Nat} {el sz : Nat} (hx : e.val x = some (.slice a len cap)) (ht : slT P t = some (el, sz)) (hle : len ≤ cap) :
    Ev P w e (.slice t x none (some (.const (.int .i64 0))) none) ty (cut0 sz (.slice a len cap)) :=
  Ev.slSl (l := 0) (h := 0) hx ht rfl ⟨_, rfl⟩ (Nat.le_refl _) (by omega) hle

theorem Slc.leCap {α : Type} {g : α → List Value} {sz : Nat} {T : TypeId} {xs : List α} (hs : Slc g sz T v xs B) : ∃ a c, v = .slice a xs.length c ∧ xs.length ≤ c := by
  cases hs with
  | nil => exact ⟨_, _, rfl, by simp⟩
  | blk b xs' cap spare fr h1 h2 h3 => exact ⟨_, _, rfl, h2⟩

theorem Fits.setSlot {ds : List Deferred} {n d : Nat} {tmps : Array Value} (h : Fits ds n e { tmps := tmps, defers := ds }) (hd : Nat.blt d n = true) (v : Value) : Fits ds n ((d, v) :: e) { tmps := tmps.setIfInBounds d v, defers := ds } :=
  h.put hd v

end
section
variable {P : Program} {w : World} {e : Env} {ty t : TypeId} {x : Operand}

theorem run_equalIn_ifaceNil {ms : Array (String × TypeId)} {T : TypeId} {v : Value} (hu : P.underlying t = some (.interface ms)) (d : Nat) : (Op.equalIn (d + 1) t (.iface T v) .nilIface).run P w = .ok false w := by
  simp [Op.equalIn, run_underlying hu]

theorem run_equalIn_nilNil {ms : Array (String × TypeId)} (hu : P.underlying t = some (.interface ms)) (d : Nat) : (Op.equalIn (d + 1) t .nilIface .nilIface).run P w = .ok true w := by
  simp [Op.equalIn, run_underlying hu]

/-- An interface value against the literal nil. -/
theorem Ev.ifNilEq {t' T : TypeId} {ms : Array (String × TypeId)} {v : Value} (hx : e.val x = some (.iface T v)) (hu : P.underlying t = some (.interface ms)) :
    Ev P w e (.binOp .eql t x (.const .nilIface) t') ty (.bool false) := .of fun ρ hρ _ _ _ _ => by
  have h := run_equal_of (w := w) fun d => run_equalIn_ifaceNil (P := P) (T := T) (v := v) hu d
  simp [execOp, hρ _ _ hx, hρ (.const .nilIface) .nilIface rfl, eqGuard, binOp, h]
theorem Ev.ifNilEqT {t' : TypeId} {ms : Array (String × TypeId)} (hx : e.val x = some .nilIface) (hu : P.underlying t = some (.interface ms)) :
    Ev P w e (.binOp .eql t x (.const .nilIface) t') ty (.bool true) := .of fun ρ hρ _ _ _ _ => by
  have h := run_equal_of (w := w) fun d => run_equalIn_nilNil (P := P) hu d
  simp [execOp, hρ _ _ hx, hρ (.const .nilIface) .nilIface rfl, eqGuard, binOp, h]
theorem Ev.ifNilNe {t' T : TypeId} {ms : Array (String × TypeId)} {v : Value} (hx : e.val x = some (.iface T v)) (hu : P.underlying t = some (.interface ms)) :
    Ev P w e (.binOp .neq t x (.const .nilIface) t') ty (.bool true) := .of fun ρ hρ _ _ _ _ => by
  have h := run_equal_of (w := w) fun d => run_equalIn_ifaceNil (P := P) (T := T) (v := v) hu d
  simp [execOp, hρ _ _ hx, hρ (.const .nilIface) .nilIface rfl, eqGuard, binOp, h]
theorem Ev.ifNilNeF {t' : TypeId} {ms : Array (String × TypeId)} (hx : e.val x = some .nilIface) (hu : P.underlying t = some (.interface ms)) :
    Ev P w e (.binOp .neq t x (.const .nilIface) t') ty (.bool false) := .of fun ρ hρ _ _ _ _ => by
  have h := run_equal_of (w := w) fun d => run_equalIn_nilNil (P := P) hu d
  simp [execOp, hρ _ _ hx, hρ (.const .nilIface) .nilIface rfl, eqGuard, binOp, h]
end

/-! ### Strings out of bytes -/

theorem toList_loop (s : ByteArray) : ∀ (m i : Nat) (r : List UInt8), s.size - i = m → ByteArray.toList.loop s i r = r.reverse ++ s.data.toList.drop i
  | 0, i, r, h => by
    unfold ByteArray.toList.loop
    have hle : s.data.toList.length ≤ i := by
      have : s.size = s.data.toList.length := by rw [Array.length_toList]; rfl
      omega
    rw [if_neg (by omega), List.drop_eq_nil_of_le hle, List.append_nil]
  | m + 1, i, r, h => by
    unfold ByteArray.toList.loop
    have hlt : i < s.size := by omega
    have hl : i < s.data.toList.length := by rw [Array.length_toList]; exact hlt
    rw [if_pos hlt, toList_loop s m (i + 1) _ (by omega), List.drop_eq_getElem_cons hl]
    have : s.get! i = s.data.toList[i] := by
      have h2 : i < s.data.size := by simpa using hl
      simp only [ByteArray.get!]
      rw [getElem!_pos s.data i h2]
      simp
    rw [this]
    simp

theorem toList_data (s : ByteArray) : s.toList = s.data.toList := by
  have := toList_loop s _ 0 [] rfl
  simpa [ByteArray.toList] using this

section
variable {P : Program} {w : World} {e : Env} {ty t t2 : TypeId} {x y : Operand} {v : Value} {L : List (Nat × Obj)} {cs bs : List UInt8}

/-- Two strings, by their bytes. -/
theorem Ev.strEqB {t' : TypeId} (hx : e.val x = some (.string ⟨cs.toArray⟩)) (hy : e.val y = some (.string ⟨bs.toArray⟩)) : Ev P w e (.binOp .eql t x y t') ty (.bool (cs == bs)) := by
  have := Ev.strEq (P := P) (w := w) (ty := ty) (t := t) (t' := t') hx hy
  rw [toList_data, toList_data] at this
  exact this
theorem Ev.strNeB {t' : TypeId} (hx : e.val x = some (.string ⟨cs.toArray⟩)) (hy : e.val y = some (.string ⟨bs.toArray⟩)) : Ev P w e (.binOp .neq t x y t') ty (.bool (!(cs == bs))) := by
  have := Ev.strNe (P := P) (w := w) (ty := ty) (t := t) (t' := t') hx hy
  rw [toList_data, toList_data] at this
  exact this

/-- 'string(b)' of bytes that somebody has. -/
theorem Ev.inpStr [Strm] {el : TypeId} (H : SL w L) (hx : e.val x = some v) (hv : Inp L v bs) (hs : P.underlying t = some (.slice el)) (he : P.underlying el = some (.int .u8)) (hd : P.underlying t2 = some .string) :
    Ev P w e (.convert t t2 x) ty (.string ⟨bs.toArray⟩) := by
  obtain ⟨a, c, rfl, hc⟩ := hv.len
  cases a with
  | none =>
    obtain rfl := hv.none_eq
    exact Ev.nilStr hx hs he hd
  | some ad => exact Ev.bytesStr H hx hs he hd rfl hv.reads

/-- A row of bytes that is known, as bytes that somebody has. -/
theorem Inp.lit {b : Nat} {T : TypeId} {fr : Nat × Nat} (hm : (b, Obj.cells (bs.map BV).toArray T fr) ∈ L) : Inp L (.slice (some ⟨b, 0, none⟩) bs.length bs.length) bs :=
  .blk b 0 _ bs (Nat.le_refl _) fun i hi => Rd.mk hm (by simp [hi])
end

theorem Ev.strNeBF {P : Program} {w : World} {e : Env} {ty t t' : TypeId} {x y : Operand} {bs : List UInt8} (hx : e.val x = some (.string ⟨bs.toArray⟩)) (hy : e.val y = some (.string ⟨bs.toArray⟩)) : Ev P w e (.binOp .neq t x y t') ty (.bool false) := by
  have := Ev.strNeB (P := P) (w := w) (ty := ty) (t := t) (t' := t') hx hy
  rw [beq_self_eq_true] at this
  exact this

theorem SL.swapL [Strm] {w : World} {A B F : List (Nat × Obj)} (h : SL w (A ++ (B ++ F))) : SL w (B ++ (A ++ F)) :=
  h.perm (by rw [← List.append_assoc, ← List.append_assoc]; exact List.perm_append_comm.append_right F)

theorem perm_in {α : Type} (A B F : List α) : (A ++ (B ++ F)).Perm (B ++ (A ++ F)) := by
  rw [← List.append_assoc, ← List.append_assoc]
  exact List.perm_append_comm.append_right F

theorem SL.headL [Strm] {w : World} {A F : List (Nat × Obj)} {x : Nat × Obj} (h : SL w (x :: (A ++ F))) : SL w (A ++ x :: F) := h.mid

theorem SL.dropIn [Strm] {w : World} {A B F : List (Nat × Obj)} (h : SL w (A ++ (B ++ F))) : SL w (A ++ F) := h.swapL.dropL

theorem gB_set {xs : List UInt8} {sp : List Value} {i : Nat} (hi : i < xs.length) (c : UInt8) : (xs.flatMap gB ++ sp).toArray.setIfInBounds i (BV c) = ((xs.set i c).flatMap gB ++ sp).toArray := by
  rw [gB_map, gB_map]
  apply Array.ext'
  simp only [Array.toList_setIfInBounds]
  rw [List.set_append_left _ _ (by simpa using hi), List.map_set]

section
variable {P : Program} {w : World} {e : Env} {ty t t2 : TypeId} {x y : Operand} {bs : List UInt8}
theorem Ev.strEqBT {t' : TypeId} (hx : e.val x = some (.string ⟨bs.toArray⟩)) (hy : e.val y = some (.string ⟨bs.toArray⟩)) : Ev P w e (.binOp .eql t x y t') ty (.bool true) := by
  have := Ev.strEqB (P := P) (w := w) (ty := ty) (t := t) (t' := t') hx hy
  rw [beq_self_eq_true] at this
  exact this
end

section
variable {P : Program} {w : World} {e : Env} {ty t : TypeId} {x y : Operand}
theorem run_equalIn_bool {a b : Bool} (hu : P.underlying t = some .bool) (d : Nat) : (Op.equalIn (d + 1) t (.bool a) (.bool b)).run P w = .ok (a == b) w := by
  simp [Op.equalIn, run_underlying hu]

theorem Ev.boolEq {t' : TypeId} {a b r : Bool} (hx : e.val x = some (.bool a)) (hy : e.val y = some (.bool b)) (hu : P.underlying t = some .bool) (hr : (a == b) = r := by rfl) : Ev P w e (.binOp .eql t x y t') ty (.bool r) := .of fun ρ hρ _ _ _ _ => by
  have h := run_equal_of (w := w) fun d => run_equalIn_bool (P := P) (a := a) (b := b) hu d
  subst hr
  simp [execOp, hρ _ _ hx, hρ _ _ hy, eqGuard, binOp, h]
theorem Ev.boolNe {t' : TypeId} {a b r : Bool} (hx : e.val x = some (.bool a)) (hy : e.val y = some (.bool b)) (hu : P.underlying t = some .bool) (hr : (a != b) = r := by rfl) : Ev P w e (.binOp .neq t x y t') ty (.bool r) := .of fun ρ hρ _ _ _ _ => by
  have h := run_equal_of (w := w) fun d => run_equalIn_bool (P := P) (a := a) (b := b) hu d
  subst hr
  simp [execOp, hρ _ _ hx, hρ _ _ hy, eqGuard, binOp, h, bne]
end

/-- A number as one without a sign. -/
theorem u64_nat (z : Int) : ∃ m : Nat, IntKind.u64.wrap z = (m : Int) ∧ m < 18446744073709551616 := by
  simp only [IntKind.wrap, IntKind.bits, IntKind.signed, Bool.false_and, Bool.false_eq_true, if_false]
  exact ⟨(z % 18446744073709551616).toNat, by omega, by omega⟩

end Go.Proofs.YtdppnaahdilkcaaGreatDoor.V
end

section
/-
  The engine: slices whose cells are read where they lie, whatever they are; append onto one that has no room; a slice cut to its length.
-/
namespace Go.Proofs.YtdppnaahdilkcaaGreatDoor.V

/-- n elements of sz cells each: their cells are cs. -/
inductive RdS (G : List (Nat × Obj)) (sz : Nat) : Value → Nat → List Value → Prop where
  | nil : RdS G sz (.slice none 0 0) 0 []
  | blk (b off n c : Nat) (cs : List Value) : cs.length = n * sz → n ≤ c → (∀ (i : Nat) v, cs[i]? = some v → Rd G ⟨b, off + i, none⟩ v) → RdS G sz (.slice (some ⟨b, off, none⟩) n c) n cs

section
variable {P : Program} {w : World} {e : Env} {ty t t2 : TypeId} {x y : Operand} {v u : Value} {G L L' B : List (Nat × Obj)} {sz n : Nat} {cs : List Value}

theorem RdS.sub (h : RdS G sz v n cs) (hs : ∀ p ∈ G, p ∈ L) : RdS L sz v n cs := by
  cases h with
  | nil => exact .nil
  | blk b off n c cs hl hc hr => exact .blk b off n c cs hl hc fun i v hi => (hr i v hi).sub hs

theorem RdS.len (h : RdS G sz v n cs) : ∃ a c, v = .slice a n c ∧ n ≤ c := by
  cases h with
  | nil => exact ⟨_, _, rfl, by simp⟩
  | blk b off n c cs hl hc hr => exact ⟨_, _, rfl, hc⟩

theorem RdS.src [Strm] (H : SL w L) (h : RdS L sz v n cs) : Src w sz v n cs := by
  cases h with
  | nil => exact .nil _
  | blk b off n c cs hl hc hr => exact .slice _ _ _ _ hl fun i v hi => by rw [add_none]; exact Rd.cell H (hr i v hi)

theorem RdS.count (h : RdS G sz v n cs) : cs.length = n * sz := by
  cases h with
  | nil => simp
  | blk b off n c cs hl hc hr => exact hl

theorem RdS.at {a : Option Addr} {n' c : Nat} (h : RdS G sz (.slice a n' c) n cs) (hn : 0 < n) : ∃ b off, a = some ⟨b, off, none⟩ ∧ ∀ (i : Nat) v, cs[i]? = some v → Rd G ⟨b, off + i, none⟩ v := by
  generalize hv : Value.slice a n' c = v at h
  cases h with
  | nil => omega
  | blk b off n c cs hl hc hr => cases hv; exact ⟨b, off, rfl, hr⟩

theorem Slc.rdS {α : Type} {g : α → List Value} {T : TypeId} {xs : List α} (h : Slc g sz T v xs B) (hg : ∀ x, (g x).length = sz) : RdS (B ++ L) sz v xs.length (xs.flatMap g) := by
  cases h with
  | nil => exact .nil
  | blk b xs cap spare fr h1 h2 h3 =>
    refine .blk b 0 _ cap _ (flatMap_length hg xs) h2 fun i v hi => ?_
    rw [Nat.zero_add]
    refine Rd.mk (.head _) ?_
    have hlt : i < (xs.flatMap g).length := by
      rcases Nat.lt_or_ge i (xs.flatMap g).length with h | h
      · exact h
      · rw [List.getElem?_eq_none h] at hi; cases hi
    rw [List.getElem?_toArray, List.getElem?_append_left hlt]
    exact hi

/-- 'x[:h:m]' with h = m. -/
theorem Ev.slCap {a : Option Addr} {len cap el : Nat} {h : Nat} {hi mx : Operand} {k k' : IntKind} (hx : e.val x = some (.slice a len cap)) (ht : slT P t = some (el, sz)) (hhi : e.val hi = some (.int k (h : Nat))) (hmx : e.val mx = some (.int k' (h : Nat)))
    (h2 : h ≤ cap) : Ev P w e (.slice t x none (some hi) (some mx)) ty (.slice a h h) := .of fun ρ hρ _ _ _ _ => by
  unfold slT at ht
  cases hu : P.underlying t with
  | none => rw [hu] at ht; cases ht
  | some d =>
    rw [hu] at ht
    cases d <;> first | (cases ht; done) | skip
    rename_i el'
    simp only at ht
    cases hn : P.info? el' with
    | none => rw [hn] at ht; cases ht
    | some inf =>
      rw [hn] at ht
      simp at ht
      obtain ⟨rfl, rfl⟩ := ht
      have hu1 := run_underlying (w := w) hu
      have hb : (Instr.sliceBounds true len cap (none.map ρ) ((some hi).map ρ) ((some mx).map ρ)).run P w = .ok (0, h, h) w := by
        simp [Instr.sliceBounds, Instr.sliceBound, hρ _ _ hhi, hρ _ _ hmx, asIntOf, h2]
      have ec : (if h = 0 then a else a.map (·.add (0 * inf.size))) = a := by
        split
        · rfl
        · cases a with
          | none => rfl
          | some a => simp [Addr.add]
      simp only [execOp, hρ _ _ hx, Instr.sliceAt, Instr.slice, Sem.run_bind, hu1, Result.andThen, hb, sizeOf, typeInfo, run_program, hn, Sem.run_pure, ec, Nat.sub_zero]

theorem RdS.takeS {α : Type} {g : α → List Value} {a : Option Addr} {n' c k : Nat} {xs : List α} (h : RdS G sz (.slice a n' c) xs.length (xs.flatMap g)) (hg : ∀ x, (g x).length = sz) (hk : k ≤ xs.length) :
    RdS G sz (.slice (cutAddr a 0 c sz) (k - 0) (c - 0)) (xs.take k).length ((xs.take k).flatMap g) := by
  rw [cutAddr_zero, Nat.sub_zero, Nat.sub_zero]
  have hl : (xs.take k).length = k := by rw [List.length_take]; omega
  generalize hn : xs.length = n at h hk
  generalize hcs : xs.flatMap g = cs at h
  generalize hv : Value.slice a n' c = v at h
  rw [hl]
  cases h with
  | nil =>
    cases hv
    obtain rfl : k = 0 := by omega
    exact .nil
  | blk b off n c cs h1 h2 h3 =>
    cases hv
    refine .blk b off k c _ (by rw [flatMap_length hg, hl]) (by omega) fun i v hi => h3 i v ?_
    rw [← hcs]
    have e1 : xs.flatMap g = (xs.take k).flatMap g ++ (xs.drop k).flatMap g := by rw [← List.flatMap_append, List.take_append_drop]
    rw [e1]
    have hlt : i < ((xs.take k).flatMap g).length := by
      rcases Nat.lt_or_ge i ((xs.take k).flatMap g).length with h | h
      · exact h
      · rw [List.getElem?_eq_none h] at hi; cases hi
    rw [List.getElem?_append_left hlt]
    exact hi

theorem RdS.dropS {α : Type} {g : α → List Value} {a : Option Addr} {n' c k : Nat} {xs : List α} (h : RdS G sz (.slice a n' c) xs.length (xs.flatMap g)) (hg : ∀ x, (g x).length = sz) (hk : k ≤ xs.length) :
    RdS G sz (.slice (cutAddr a k c sz) (xs.length - k) (c - k)) (xs.drop k).length ((xs.drop k).flatMap g) := by
  rw [List.length_drop]
  have hcnt := flatMap_length hg (xs.drop k)
  rw [List.length_drop] at hcnt
  have hct := flatMap_length hg (xs.take k)
  rw [List.length_take, Nat.min_eq_left hk] at hct
  generalize hn : xs.length = n at h hk hcnt
  generalize hcs : xs.flatMap g = cs at h
  generalize hv : Value.slice a n' c = v at h
  cases h with
  | nil =>
    cases hv
    obtain rfl : k = 0 := by omega
    have : xs = [] := List.eq_nil_of_length_eq_zero hn
    subst this
    rw [cutAddr_zero]
    exact .nil
  | blk b off n c cs h1 h2 h3 =>
    cases hv
    have key : ∀ (i : Nat) v, ((xs.drop k).flatMap g)[i]? = some v → Rd G ⟨b, off + (k * sz + i), none⟩ v := fun i v hi => h3 (k * sz + i) v (by
      rw [← hcs]
      have e1 : xs.flatMap g = (xs.take k).flatMap g ++ (xs.drop k).flatMap g := by rw [← List.flatMap_append, List.take_append_drop]
      rw [e1, List.getElem?_append_right (by omega), hct, Nat.add_sub_cancel_left]
      exact hi)
    by_cases hck : c = k
    · have e : cutAddr (some (⟨b, off, none⟩ : Addr)) k c sz = some ⟨b, off, none⟩ := by simp [cutAddr, hck]
      rw [e]
      have hx0 : xs.drop k = [] := List.drop_eq_nil_of_le (by omega)
      rw [hx0]
      rw [hx0] at hcnt
      exact .blk b off _ _ _ hcnt (by omega) fun i v hi => by simp at hi
    · have e : cutAddr (some (⟨b, off, none⟩ : Addr)) k c sz = some ⟨b, off + k * sz, none⟩ := by simp [cutAddr, hck, add_none]
      rw [e]
      exact .blk b (off + k * sz) _ _ _ hcnt (by omega) fun i v hi => by rw [Nat.add_assoc]; exact key i v hi

/-- Append onto a slice that has no room: a row of one's own. -/
theorem Ex.appendNew [Strm] {α : Type} {g : α → List Value} {by_ : Nat} {T : TypeId} {zv : Value} {xs ys : List α} {a : Option Addr} {cap : Nat} (H : SL w L) (hx : e.val x = some (.slice a xs.length cap)) (hy : e.val y = some u) (hs : RdS L sz (.slice a xs.length cap) xs.length (xs.flatMap g))
    (hsrc : Src w sz u ys.length (ys.flatMap g)) (hroom : cap < xs.length + ys.length) (hg : ∀ x, (g x).length = sz) (ht : slT P t = some (T, sz)) (h2 : srcT P t2 = true) (hby : bytesT P T = some by_)
    (hz : zeroT P T = some zv) (hzs : zv.cells.size = sz) (h63 : xs.length + ys.length ≤ 9223372036854775807) (hbytes : (xs.length + ys.length) * by_ ≤ 140737488355328) :
    Ex P w e (.call ⟨.builtin .append, #[x, y], #[t, t2]⟩) ty fun v' w' => ∃ B', Slc g sz T v' (xs ++ ys) B' ∧ SL w' (B' ++ L) := .of fun ρ hρ _ _ _ _ => by
  have hxs := flatMap_length hg xs
  have hfo : ∀ w', w'.heap = w.heap → (Builtin.firstCells sz xs.length (.slice a xs.length cap)).run P w' = .ok (xs.flatMap g).toArray w' := fun w' hw => by
    have h1 := (hs.src H).drew hw
    exact h1.first
  obtain ⟨w', cap', hr, hc, hh, hk⟩ := run_append_out (P := P) (t := t) (t2 := t2) (ty := ty) ht hby hz h2 hsrc hfo hroom h63 hbytes
  have e1 : (execOp ρ ⟨‹_›, .call ⟨.builtin .append, #[x, y], #[t, t2]⟩, ty, ‹_›, ‹_›, ‹_›⟩).run P w = .ok (.value (.slice (some ⟨w.heap.size, 0, none⟩) (xs.length + ys.length) cap')) w' := by
    simp [execOp, resolve, invoke, builtin, hρ _ _ hx, hρ _ _ hy, hr]
  rw [e1]
  refine ⟨[(w.heap.size, .cells ((xs ++ ys).flatMap g ++ (Builtin.zeroCells zv.cells (cap' - (xs.length + ys.length))).toList).toArray T (0, 0))], ?_, ?_⟩
  · have := Slc.blk (g := g) (sz := sz) (T := T) w.heap.size (xs ++ ys) cap' (Builtin.zeroCells zv.cells (cap' - (xs.length + ys.length))).toList (0, 0) (by rw [zeroCells_len, hzs, List.length_append, ← Nat.add_mul]; congr 1; omega) (by simpa using hc) (Thaw.zero _ _)
    simpa using this
  · have h3 := H.alloc (.cells (xs.flatMap g ++ ys.flatMap g ++ (Builtin.zeroCells zv.cells (cap' - (xs.length + ys.length))).toList).toArray T (0, 0))
    have h4 := h3.heap (w' := w') hh hk
    simpa [List.flatMap_append] using h4

/-- Two results, of which the first lies in memory (a whole block). -/
theorem RunsE.retAggTmp [Strm] {f : FuncId} {Post : Value → World → Prop} {k : List Item} {n : Nat} {fn : Func} {t t' b m : Nat} {ty T : TypeId} {fr : Nat × Nat} {vs : List Value} {v' : Value} {L : List (Nat × Obj)}
    (H : SL w L) (hf : P.funcs[f]? = some fn) (hr : fn.results = #[.cell t ty, .tmp t']) (ht : e.get t = some (.pointer (some ⟨b, 0, none⟩))) (ht' : e.get t' = some v')
    (ha : aggT P ty = some m) (hn : vs.length = m) (hm : (b, Obj.cells vs.toArray T fr) ∈ L) (h : Post (.tuple #[.agg vs.toArray, v']) w) :
    RunsE P ⟨f, none, []⟩ (fun e w' => ∃ v, e = .returned v ∧ Post v w') n (.code .ret :: k) e w := .of fun a ha' => by
  have hl : (loadVar ty ⟨b, 0, none⟩).run P w = .ok (.agg vs.toArray) w := run_loadVar_agg (by rw [ha, hn]) fun i v hv => Rd.cell H (by rw [add_none, Nat.zero_add]; exact Rd.mk hm (by simpa using hv))
  exact .ret hf ha'.defers (by simp [results, hr, ha'.vals t _ ht, ha'.vals t' _ ht', asAddr, hl]) ⟨_, rfl, h⟩

end

abbrev SE := Option Addr × Nat × Nat
abbrev gS (u : SE) : List Value := [.slice u.1 u.2.1 u.2.2]

/-- Slices of bytes, each with what is read there. -/
structure BytesIn (F : List (Nat × Obj)) (us : List SE) (P : List (List UInt8)) : Prop where
  len : us.length = P.length
  el : ∀ (i : Nat) u, us[i]? = some u → Inp F (.slice u.1 u.2.1 u.2.2) (P.getD i [])

theorem BytesIn.sub {F F' : List (Nat × Obj)} {us : List SE} {P : List (List UInt8)} (h : BytesIn F us P) (hs : ∀ p ∈ F, p ∈ F') : BytesIn F' us P := ⟨h.len, fun i u hi => (h.el i u hi).sub hs⟩

theorem BytesIn.set {F : List (Nat × Obj)} {us : List SE} {P : List (List UInt8)} (h : BytesIn F us P) {p : Nat} {u : SE} {bs : List UInt8} (hu : Inp F (.slice u.1 u.2.1 u.2.2) bs) (hp : p < P.length) : BytesIn F (us.set p u) (P.set p bs) := by
  refine ⟨by simp [h.len], fun i x hi => ?_⟩
  have hpl : p < us.length := by rw [h.len]; exact hp
  by_cases hip : p = i
  · subst hip
    rw [List.getElem?_set_self hpl] at hi
    cases hi
    simpa [List.getD_eq_getElem?_getD, hp] using hu
  · rw [List.getElem?_set_ne hip] at hi
    have := h.el i x hi
    simpa [List.getD_eq_getElem?_getD, List.getElem?_set_ne hip] using this

theorem gS_set {us : List SE} {sp : List Value} {p : Nat} (hp : p < us.length) (u : SE) : (us.flatMap gS ++ sp).toArray.setIfInBounds p (.slice u.1 u.2.1 u.2.2) = ((us.set p u).flatMap gS ++ sp).toArray := by
  have hm : ∀ l : List SE, l.flatMap gS = l.map fun u => Value.slice u.1 u.2.1 u.2.2 := fun l => flatMap_one _ l
  rw [hm, hm]
  apply Array.ext'
  simp only [Array.toList_setIfInBounds]
  rw [List.set_append_left _ _ (by simpa using hp), List.map_set]

end Go.Proofs.YtdppnaahdilkcaaGreatDoor.V
end

section
/-
  The engine: maps of one's own, keyed by arrays of bytes.
-/
namespace Go.Proofs.YtdppnaahdilkcaaGreatDoor.V
open Go.ChangeShapes Go.WideShapes

abbrev hV (h : List UInt8) : Value := .agg (h.map BV).toArray

theorem mapM_some {α β : Type} {f : α → Option β} {g : α → β} : ∀ {l : List α}, (∀ x ∈ l, f x = some (g x)) → l.mapM f = some (l.map g)
  | [], _ => rfl
  | x :: r, h => by
    rw [List.mapM_cons, h x (.head _), mapM_some fun y hy => h y (.tail _ hy)]
    rfl

theorem u8_wf (b : UInt8) : (Lit.int .u8 (b.toNat : Int)).wf = true := by
  have := b.toNat_lt
  simp [Lit.wf, IntKind.min, IntKind.max, IntKind.signed, IntKind.bits]
  omega

/-- An array of bytes is a key. -/
theorem keyOf_bytes {P : Program} {k el n : Nat} {h : List UInt8} (hk : P.underlying k = some (.array n el)) (he : P.underlying el = some (.int .u8)) (hc : P.cellsOf el = 1) (hck : P.cellsOf k = n) (hkt : P.keyType k = true) (hp : 0 < P.types.size) (hn : h.length = n) :
    ∃ l, keyOf P k (hV h) = some l := by
  have hf : (hV h).formed P k = true := by simp [Value.formed, hk, hck, hn]
  have hd : ∃ d, P.types.size + 1 = d + 2 := ⟨P.types.size - 1, by omega⟩
  obtain ⟨d, hd⟩ := hd
  have hl : P.keyLits (P.types.size + 1) k (hV h).cells.toList = some (((List.range n).map fun i => [Lit.int .u8 ((h.getD i 0).toNat : Int)]).flatten) := by
    rw [hd]
    unfold Program.keyLits
    simp only [hk, Value.cells, List.length_map, hn, hck, if_true, hc, Nat.mul_one]
    rw [mapM_some (g := fun i => [Lit.int .u8 ((h.getD i 0).toNat : Int)])]
    · rfl
    · intro i hi
      have hi' := List.mem_range.1 hi
      have e1 : ((h.map BV).drop i).take 1 = [BV (h.getD i 0)] := by
        rw [List.drop_eq_getElem_cons (by simp; omega)]
        simp [List.getD_eq_getElem?_getD, show i < h.length by omega]
      rw [e1]
      unfold Program.keyLits
      simp only [he]
      rw [if_pos ⟨trivial, u8_wf _⟩]
  unfold keyOf
  simp only [hk, hkt, hf, Bool.and_self, if_true, hl, Option.map_some]
  exact ⟨_, rfl⟩

/-- The type t: maps from arrays of n bytes to v. -/
structure MapT (P : Program) (t k v n : Nat) : Prop where
  map : P.underlying t = some (.map k v)
  keyed : Maps.Keyed P k
  key : ∀ h : List UInt8, h.length = n → ∃ l, keyOf P k (hV h) = some l

theorem MapT.of {P : Program} {t k v n el m : Nat} (hl : laidOutB P = true) (ht : P.underlying t = some (.map k v)) (hk : P.underlying k = some (.array n el)) (he : P.underlying el = some (.int .u8)) (hc : P.cellsOf el = 1) (hck : P.cellsOf k = n)
    (hkt : P.keyType k = true) (hrow : k < P.types.size) (hm : m + 1 ≤ 10000) (hkm : P.keyTypeAt m k = true) : MapT P t k v n :=
  ⟨ht, Maps.Keyed.of_law (deep_law_laid hl hm hrow hkm (by rw [hk])), fun _ hn => keyOf_bytes hk he hc hck hkt (by omega) hn⟩

/-- Entries: keys of n bytes each. -/
abbrev Ent := List UInt8 × Value × Nat
def entM (x : Ent) : MapEntry := { key := hV x.1, val := x.2.1, born := x.2.2 }
def mapO (es : List Ent) (clock : Nat) : Obj := .map (es.map entM).toArray clock

theorem bv_inj {a b : List UInt8} (h : hV a = hV b) : a = b := by
  have h1 := Array.toList_inj.2 (Value.agg.inj h)
  simp only at h1
  refine (List.map_inj_right ?_).1 h1
  intro x y hxy
  have : (x.toNat : Int) = y.toNat := (Value.int.inj hxy).2
  exact UInt8.toNat_inj.1 (by omega)

section
variable {P : Program} {w : World} {e : Env} {ty t k v n : TypeId} {x y z : Operand} {L L' : List (Nat × Obj)}

theorem Ex.makeMap [Strm] (H : SL w L) : Ex P w e (.makeMap t none) ty fun u w' => ∃ b, u = .map (some b) ∧ SL w' ((b, mapO [] 0) :: L) := .of fun ρ hρ _ _ _ _ => by
  simp only [execOp, Option.map_none, Instr.makeMap, Sem.run_bind, run_newObj, Result.andThen, Sem.run_pure]
  exact ⟨w.heap.size, rfl, H.alloc _⟩

/-- What is found at a key. -/
def atKey (es : List Ent) (h : List UInt8) : Option Ent := es.find? fun x => x.1 == h

theorem find_run (T : MapT P t k v n) {es : List Ent} {h : List UInt8} (hn : ∀ x ∈ es, x.1.length = n) (hh : h.length = n) :
    ((Instr.findKey k (hV h) (es.map entM)).run P w = .ok none w ∧ ∀ x ∈ es, x.1 ≠ h) ∨ ∃ j x, (Instr.findKey k (hV h) (es.map entM)).run P w = .ok (some (j, x.2.1)) w ∧ es[j]? = some x ∧ x.1 = h := by
  obtain ⟨l, hl⟩ := T.key h hh
  rcases T.keyed.find w hl (es.map entM) (fun e he => by obtain ⟨x, hx, rfl⟩ := List.mem_map.1 he; exact T.key _ (hn x hx)) with ⟨h1, h2⟩ | ⟨j, e0, h1, h2, h3⟩
  · exact .inl ⟨h1, fun x hx he => h2 _ (List.mem_map_of_mem (f := entM) hx) (by rw [← he]; rfl)⟩
  · rw [List.getElem?_map] at h2
    obtain ⟨x, hx, rfl⟩ := Option.map_eq_some_iff.1 h2
    exact .inr ⟨j, x, h1, hx, bv_inj h3⟩

/-- 'm[k]', without its ok. -/
theorem Ev.lookup [Strm] {b clock : Nat} {es : List Ent} {h : List UInt8} {zv : Value} (H : SL w L) (T : MapT P t k v n) (hx : e.val x = some (.map (some b))) (hy : e.val y = some (hV h)) (hm : (b, mapO es clock) ∈ L)
    (hn : ∀ x ∈ es, x.1.length = n) (hh : h.length = n) (hz : zeroT P v = some zv) {r : Value} (hr : (∀ x ∈ es, x.1 ≠ h) → r = zv) (hr2 : ∀ (j : Nat) x, es[j]? = some x → x.1 = h → r = x.2.1) : Ev P w e (.lookup t x y false) ty r := .of fun ρ hρ _ _ _ _ => by
  have hb := H.1 _ hm
  simp only [mapO] at hb
  obtain ⟨l, hl⟩ := T.key h hh
  have hc := T.keyed.check w ((es.map entM).toArray.isEmpty) hl
  have hzr : (zeroValue v).run P w = .ok zv w := by
    unfold zeroT at hz
    cases hi : P.info? v with
    | none => rw [hi] at hz; cases hz
    | some i => rw [hi] at hz; simp only [Option.bind_some] at hz; simp [zeroValue, typeInfo, hi, hz]
  simp only [execOp, hρ _ _ hx, hρ _ _ hy, Instr.lookup, Sem.run_bind, run_underlying T.map, Result.andThen, MapKept.run_getObj_map hb, Sem.run_pure, hc]
  rcases find_run (w := w) T hn hh with ⟨h1, h2⟩ | ⟨j, x, h1, h2, h3⟩
  · simp [h1, hzr, hr h2]
  · simp [h1, hr2 j x h2 h3]

/-- 'm[k] = v'. -/
theorem Ex.mapUpdate [Strm] {b clock : Nat} {es : List Ent} {h : List UInt8} {u : Value} {M : Obj → List (Nat × Obj)} (H : SL w (M (mapO es clock))) (T : MapT P t k v n) (hx : e.val x = some (.map (some b))) (hy : e.val y = some (hV h)) (hv : e.val z = some u)
    (hu : ∀ o', Upd b (mapO es clock) o' (M (mapO es clock)) (M o')) (hn : ∀ x ∈ es, x.1.length = n) (hh : h.length = n) :
    Ex P w e (.mapUpdate t x y z) ty fun _ w' => ((∀ x ∈ es, x.1 ≠ h) ∧ SL w' (M (mapO (es ++ [(h, u, clock)]) (clock + 1)))) ∨ ∃ j x, es[j]? = some x ∧ x.1 = h ∧ SL w' (M (mapO (es.set j (h, u, x.2.2)) clock)) := .of fun ρ hρ _ _ _ _ => by
  have hb0 := H.1 _ (hu (mapO es clock)).mem
  have hb := hb0
  simp only [mapO] at hb
  obtain ⟨l, hl⟩ := T.key h hh
  have hc := T.keyed.check w false hl
  have hlt : b < w.heap.size := by
    rcases Nat.lt_or_ge b w.heap.size with h | h
    · exact h
    · rw [Array.getElem?_eq_none h] at hb; cases hb
  have fin : ∀ o', SL { w with heap := w.heap.setIfInBounds b o' } (M o') := fun o' => by
    refine H.upd (hu o') (by simp [hlt]) (fun c hc => ?_) ⟨rfl, rfl, rfl⟩
    simp [Ne.symm hc]
  simp only [execOp, hρ _ _ hx, hρ _ _ hy, hρ _ _ hv, Instr.mapUpdate, Sem.run_bind, run_underlying T.map, Result.andThen, MapKept.run_getObj_map hb, hc]
  rcases find_run (w := w) T hn hh with ⟨h1, h2⟩ | ⟨j, x, h1, h2, h3⟩
  · simp only [h1, MapKept.run_setObj_map _ hb]
    have e1 : Obj.map ((es.map entM).toArray.push { key := hV h, val := u, born := clock }) (clock + 1) = mapO (es ++ [(h, u, clock)]) (clock + 1) := by
      simp [mapO, entM]
    rw [e1]
    exact .inl ⟨h2, fin _⟩
  · obtain ⟨xk, xv, xb⟩ := x
    simp only at h3
    subst h3
    have e0 : ((((es.map entM).toArray[j]?).map (·.key)).getD (hV xk)) = hV xk := by
      simp [h2, entM]
    have hst := T.keyed.stays w hl
    simp only [h1, e0, hst, Sem.run_bind, Result.andThen, MapKept.run_setObj_map _ hb]
    have e1 : Obj.map ((es.map entM).toArray.modify j fun e => { e with key := hV xk, val := u }) clock = mapO (es.set j (xk, u, xb)) clock := by
      simp only [mapO]
      congr 1
      apply Array.ext_getElem?
      intro i
      simp only [Array.getElem?_modify, List.getElem?_toArray, List.getElem?_map, List.getElem?_set]
      by_cases hji : j = i
      · subst hji
        have hlt' : j < es.length := by
          rcases Nat.lt_or_ge j es.length with h | h
          · exact h
          · rw [List.getElem?_eq_none h] at h2; cases h2
        rw [h2]
        simp [hlt', entM]
      · simp [hji]
    rw [e1]
    exact .inr ⟨j, _, h2, rfl, fin _⟩
end

/-! ### Many rows of one's own -/

/-- Things in a row, each with blocks of its own. -/
inductive Many {α β : Type} (R : α → β → List (Nat × Obj) → Prop) : List α → List β → List (Nat × Obj) → Prop where
  | nil : Many R [] [] []
  | cons {a : α} {x : β} {aas : List α} {xs : List β} {B Bs : List (Nat × Obj)} : R a x B → Many R aas xs Bs → Many R (a :: aas) (x :: xs) (B ++ Bs)

section
variable {α β : Type} {R : α → β → List (Nat × Obj) → Prop} {aas : List α} {xs : List β} {B : List (Nat × Obj)}
theorem Many.length (h : Many R aas xs B) : aas.length = xs.length := by
  induction h with
  | nil => rfl
  | cons _ _ ih => simp [ih]

theorem Many.at (h : Many R aas xs B) : ∀ {i : Nat} {a : α}, aas[i]? = some a → ∃ x B1 Bi B2, xs[i]? = some x ∧ B = B1 ++ (Bi ++ B2) ∧ R a x Bi ∧ ∀ a' x' Bi', R a' x' Bi' → Many R (aas.set i a') (xs.set i x') (B1 ++ (Bi' ++ B2)) := by
  induction h with
  | nil => intro i a h; simp at h
  | cons hr hm ih =>
    rename_i a0 x0 aas xs B Bs
    intro i a hi
    cases i with
    | zero =>
      simp at hi
      subst hi
      exact ⟨x0, [], B, Bs, rfl, rfl, hr, fun a' x' Bi' h' => by simpa using Many.cons h' hm⟩
    | succ i =>
      simp at hi
      obtain ⟨x, B1, Bi, B2, h1, rfl, h3, h4⟩ := ih hi
      exact ⟨x, B ++ B1, Bi, B2, by simpa using h1, by simp, h3, fun a' x' Bi' h' => by
        have := Many.cons hr (h4 a' x' Bi' h')
        simpa using this⟩

theorem Many.push {a : α} {x : β} {Bi : List (Nat × Obj)} (h : Many R aas xs B) (hr : R a x Bi) : Many R (aas ++ [a]) (xs ++ [x]) (B ++ Bi) := by
  induction h with
  | nil => simpa using Many.cons hr .nil
  | cons h0 _ ih =>
    have := Many.cons h0 ih
    simpa using this

theorem Many.imp {R' : α → β → List (Nat × Obj) → Prop} (h : Many R aas xs B) (hi : ∀ a x B, R a x B → R' a x B) : Many R' aas xs B := by
  induction h with
  | nil => exact .nil
  | cons h0 _ ih => exact .cons (hi _ _ _ h0) ih
end

end Go.Proofs.YtdppnaahdilkcaaGreatDoor.V
end

section
/-
  The engine: append of a make; a call of a function that has no body; two slices that lie apart.
-/
namespace Go.Proofs.YtdppnaahdilkcaaGreatDoor.V

section
variable {P : Program} {w : World} {e : Env} {ty t t2 : TypeId} {x y z : Operand} {v u : Value} {L L' B : List (Nat × Obj)}

/-- 'append(s, make([]int, m)...)', beyond the room there is. -/
theorem Ex.appendMake [Strm] {el n m cap : Nat} {a : Option Addr} {vs : List Value} (H : SL w L) (hx : e.val x = some (.slice a n cap)) (hy : e.val y = some (.int .i64 (m : Nat))) (hs : RdS L 1 (.slice a n cap) n vs)
    (h0 : 0 < m) (hroom : cap < n + m) (hbig : n + m ≤ 1000000) (ht : slT P t = some (el, 1)) (hu2 : P.underlying t2 = some (.int .i64)) (hby : bytesT P el = some 8) (hz : zeroT P el = some (.int .i64 0)) :
    Ex P w e (.call ⟨.builtin .append, #[x, y], #[t, t2]⟩) ty fun v' w' => ∃ b cap', v' = .slice (some ⟨b, 0, none⟩) (n + m) cap' ∧ n + m ≤ cap' ∧ SL w' ((b, .cells (vs ++ List.replicate (cap' - n) (Value.int .i64 0)).toArray el (0, 0)) :: L) := .of fun ρ hρ _ _ _ _ => by
  obtain ⟨hu, inf, hi, hsz⟩ := slT_spec ht
  simp only [bytesT, hi, Option.map_some, Option.some.injEq] at hby
  simp only [zeroT, hi, Option.bind_some] at hz
  have hfit := growslice_fits (bytes := inf.bytes) hroom (by rw [hby]; omega)
  have hn : ¬ (n + m ≤ cap) := by omega
  have h63' : ¬ (9223372036854775807 < ((n : Int) + (m : Int))) := by omega
  have h48' : ¬ (281474976710656 < Builtin.nextslicecap (n + m) cap * inf.bytes) := by omega
  have hwr : IntKind.i64.wrap (m : Int) = (m : Int) := qi64 (by omega) (by omega)
  have hneg : ¬ ((m : Int) < 0) := by omega
  have hm48 : ¬ ((281474976710656 : Int) < (m : Int) * inf.bytes) := by rw [hby]; omega
  have hfo := ((hs.src H).drew (w' := w.drew) rfl).first (P := P)
  have hcl := hs.count
  obtain ⟨cap', hcap'⟩ : ∃ c, c = grownCap w (n + m) cap el := ⟨_, rfl⟩
  have hge : n + m ≤ cap' := by rw [hcap']; exact grownCap_ge _ _ _ _
  have hm1 : m ≠ 0 := by omega
  have hrun : (Builtin.append_ #[t, t2] ty #[.slice a n cap, .int .i64 (m : Nat)]).run P w = .ok (.slice (some ⟨w.heap.size, 0, none⟩) (n + m) cap')
      (w.drew.alloc (.cells (vs ++ List.replicate (cap' - n) (Value.int .i64 0)).toArray el)) := by
    have e1 : ∀ k, (Builtin.zeroCells #[Value.int .i64 0] k).toList = List.replicate k (Value.int .i64 0) := fun k => by
      apply List.ext_getElem?
      intro i
      simp [Builtin.zeroCells, List.getElem?_replicate]
      by_cases hik : i < k
      · simp [hik, Nat.mod_one]
      · simp [hik]
    have e2 : ∀ k, Builtin.zeroCells #[Value.int .i64 0] k = (List.replicate k (Value.int .i64 0)).toArray := fun k => by
      apply Array.ext'
      rw [e1]
    have e3 : (vs ++ (List.replicate m (Value.int .i64 0) ++ List.replicate (cap' - (n + m)) (Value.int .i64 0))) = vs ++ List.replicate (cap' - n) (Value.int .i64 0) := by
      rw [List.replicate_append_replicate]
      congr 2
      omega
    rw [← e3]
    subst hcap'
    simp [Builtin.append_, run_underlying hu, run_underlying hu2, sizeOf, typeInfo, zeroValue, asInt, asIntOf, hi, hsz, hz, hn, h63', h48', hwr, hneg, hm48, hm1, Question.forced, hfo, newRow, grownCap, Value.cells, e2]
    congr 2
    apply Array.ext'
    simp
  have e1 : (execOp ρ ⟨‹_›, .call ⟨.builtin .append, #[x, y], #[t, t2]⟩, ty, ‹_›, ‹_›, ‹_›⟩).run P w = .ok (.value (.slice (some ⟨w.heap.size, 0, none⟩) (n + m) cap')) (w.drew.alloc (.cells (vs ++ List.replicate (cap' - n) (Value.int .i64 0)).toArray el)) := by
    simp [execOp, resolve, invoke, builtin, hρ _ _ hx, hρ _ _ hy, hrun]
  rw [e1]
  refine ⟨w.heap.size, cap', rfl, hge, ?_⟩
  have h3 := H.alloc (.cells (vs ++ List.replicate (cap' - n) (Value.int .i64 0)).toArray el (0, 0))
  exact h3.heap rfl ⟨rfl, rfl, rfl⟩

/-- A call of a function that has no body. -/
theorem Ex.callX {f : FuncId} {l : List Operand} {vs : List Value} {ats : Array TypeId} {w' : World} (hl : e.vals l = some vs) (hc : (callFunc f vs.toArray).run P w = .ok (.value v) w') :
    Ex P w e (.call ⟨.value (.func f), l.toArray, ats⟩) ty fun u w2 => u = v ∧ w2 = w' := .of fun ρ hρ _ _ _ _ => by
  have h1 := Env.vals_map hρ hl
  have h2 : ρ (.func f) = .func (.func f) #[] #[] := hρ _ _ rfl
  have h3 : (execOp ρ ⟨‹_›, .call ⟨.value (.func f), l.toArray, ats⟩, ty, ‹_›, ‹_›, ‹_›⟩).run P w = .ok (.value v) w' := by
    simp [execOp, resolve, h2, Deferred.ofValue, invoke, h1, hc]
  rw [h3]
  exact ⟨rfl, rfl⟩

/-- A literal of one element, which is a struct or an array. -/
theorem Ex.buildOne [Strm] {sz : Nat} {cs : List Value} {T : TypeId} {zv : Value} (H : SL w L) (hx : e.val x = some (.agg cs.toArray)) (ht : slT P t = some (T, sz)) (hz : zeroT P T = some zv) (hcs : cs.length = sz) (h0 : 0 < sz) (h24 : sz ≤ 16777216) :
    Ex P w e (.buildSlice t 1 #[(0, x)]) ty fun v w' => ∃ b, v = .slice (some ⟨b, 0, none⟩) 1 1 ∧ SL w' ((b, .cells cs.toArray T (0, 0)) :: L) := by
  refine Ex.buildSlP (len := 1) (l := [(0, x)]) (ps := [(0, .agg cs.toArray)]) (sz := sz) (cs := cs) (zv := zv) H (by simp [Env.partsI, hx]) ht hz ?_ (by omega) (by omega)
  unfold fillP
  simp only [Nat.zero_mul, Value.cells, List.size_toArray, hcs, Nat.zero_add, List.length_map, List.length_range, Nat.one_mul, Nat.le_refl, and_self, if_true, fillP]
  rw [putAt_all (by simp [hcs])]

theorem shape_of {w : World} {b : Nat} {cs : Array Value} {T : TypeId} {fr : Nat × Nat} (h : w.heap[b]? = some (.cells cs T fr)) : w.shape? b = some (T, cs.size) := by simp [World.shape?, h]
theorem thaw_of {w : World} {b off : Nat} {cs : Array Value} {T : TypeId} (h : w.heap[b]? = some (.cells cs T (0, 0))) : w.frozen? ⟨b, off, none⟩ = false := by simp [World.frozen?, h]

end
end Go.Proofs.YtdppnaahdilkcaaGreatDoor.V
end

section
/-
  The engine: maps of one's own, keyed by strings; strings by their order.
-/
namespace Go.Proofs.YtdppnaahdilkcaaGreatDoor.V
open Go.ChangeShapes Go.WideShapes

abbrev sV (h : List UInt8) : Value := .string ⟨h.toArray⟩

theorem sV_inj {a b : List UInt8} (h : sV a = sV b) : a = b := by
  have h1 := congrArg ByteArray.data (Value.string.inj h)
  exact List.toArray_inj h1

theorem sV_beq (a b : List UInt8) : ((⟨a.toArray⟩ : ByteArray) == ⟨b.toArray⟩) = decide (a = b) := by
  show (a.toArray == b.toArray) = _
  rw [Bool.eq_iff_iff, beq_iff_eq, decide_eq_true_iff]
  exact ⟨fun h => List.toArray_inj h, fun h => by rw [h]⟩

/-! ### The order of strings -/

theorem bytesLess_eq : ∀ a b : List UInt8, Op.bytesLess a b = decide (a < b)
  | _, [] => by
    unfold Op.bytesLess
    exact (decide_eq_false (List.not_lt_nil _)).symm
  | [], _ :: _ => by
    unfold Op.bytesLess
    exact (decide_eq_true (List.nil_lt_cons _ _)).symm
  | a :: x, b :: y => by
    unfold Op.bytesLess
    rw [bytesLess_eq x y, Bool.eq_iff_iff, decide_eq_true_iff, List.cons_lt_cons_iff]
    simp only [Bool.or_eq_true, Bool.and_eq_true, decide_eq_true_iff, beq_iff_eq]

section
variable {P : Program} {w : World} {e : Env} {ty t t' k v n : TypeId} {x y z : Operand} {L L' : List (Nat × Obj)} {cs bs : List UInt8}
theorem Ev.strLss {r : Bool} (hx : e.val x = some (sV cs)) (hy : e.val y = some (sV bs)) (hr : decide (cs < bs) = r := by rfl) : Ev P w e (.binOp .lss t x y t') ty (.bool r) := .of fun ρ hρ _ _ _ _ => by
  subst hr
  rw [← bytesLess_eq]
  simp [execOp, hρ _ _ hx, hρ _ _ hy, eqGuard, binOp, Op.stringOp, toList_data]

theorem Ev.strEqR {r : Bool} (hx : e.val x = some (sV cs)) (hy : e.val y = some (sV bs)) (hr : decide (cs = bs) = r := by rfl) : Ev P w e (.binOp .eql t x y t') ty (.bool r) := by
  have := Ev.strEqB (P := P) (w := w) (ty := ty) (t := t) (t' := t') hx hy
  rwa [show (cs == bs) = r from by rw [← hr, Bool.eq_iff_iff]; simp] at this
theorem Ev.strNeR {r : Bool} (hx : e.val x = some (sV cs)) (hy : e.val y = some (sV bs)) (hr : decide (cs ≠ bs) = r := by rfl) : Ev P w e (.binOp .neq t x y t') ty (.bool r) := by
  have := Ev.strNeB (P := P) (w := w) (ty := ty) (t := t) (t' := t') hx hy
  rwa [show (!(cs == bs)) = r from by rw [← hr, Bool.eq_iff_iff]; simp] at this
theorem Ev.lenStrL {ats : Array TypeId} (hx : e.val x = some (sV cs)) (ha : ats[0]? = some t) (hu : P.underlying t = some .string) :
    Ev P w e (.call ⟨.builtin .len, #[x], ats⟩) ty (.int .i64 (cs.length : Nat)) :=
  Ev.lenStr (P := P) (w := w) (ty := ty) hx ha hu
end

/-! ### Maps -/

structure MapSP (P : Program) (t k v : Nat) : Prop where
  map : P.underlying t = some (.map k v)
  key : P.underlying k = some .string

def entS (x : Ent) : MapEntry := { key := sV x.1, val := x.2.1, born := x.2.2 }
def mapSO (es : List Ent) (clock : Nat) : Obj := .map (es.map entS).toArray clock

/-- What is found at a key: the place, the value. -/
def fnd (h : List UInt8) : List Ent → Nat → Option (Nat × Value)
  | [], _ => none
  | x :: r, i => if x.1 = h then some (i, x.2.1) else fnd h r (i + 1)

theorem fnd_none {h : List UInt8} : ∀ {es : List Ent} {i : Nat}, fnd h es i = none → ∀ x ∈ es, x.1 ≠ h
  | [], _, _, x, hx => by cases hx
  | y :: r, i, hf, x, hx => by
    unfold fnd at hf
    split at hf
    · cases hf
    · rcases List.mem_cons.1 hx with rfl | hx
      · assumption
      · exact fnd_none hf x hx

theorem fnd_some {h : List UInt8} : ∀ {es : List Ent} {i j : Nat} {v : Value}, fnd h es i = some (j, v) → i ≤ j ∧ ∃ x, es[j - i]? = some x ∧ x.1 = h ∧ v = x.2.1
  | [], _, _, _, hf => by cases hf
  | y :: r, i, j, v, hf => by
    unfold fnd at hf
    split at hf
    · cases hf
      exact ⟨Nat.le_refl _, y, by simp, by assumption, rfl⟩
    · obtain ⟨h1, x, h2, h3, h4⟩ := fnd_some hf
      refine ⟨by omega, x, ?_, h3, h4⟩
      rw [show j - i = (j - (i + 1)) + 1 by omega]
      simpa using h2

theorem findNow_str (h : List UInt8) : ∀ (es : List Ent) (i : Nat), Instr.findNow .string (sV h) (es.map entS) i = some (fnd h es i)
  | [], _ => rfl
  | x :: r, i => by
    have e1 : Instr.sameNow .string (sV h) (entS x).key = some (decide (x.1 = h)) := by
      show some ((⟨h.toArray⟩ : ByteArray) == ⟨x.1.toArray⟩) = _
      rw [sV_beq]
      congr 1
      rw [Bool.eq_iff_iff, decide_eq_true_iff, decide_eq_true_iff]
      exact eq_comm
    rw [List.map_cons]
    unfold Instr.findNow
    rw [e1]
    unfold fnd
    by_cases hx : x.1 = h
    · simp only [hx, decide_true, if_true]; rfl
    · simp only [hx, decide_false, if_false]
      exact findNow_str h r (i + 1)

section
variable {P : Program} {w : World} {e : Env} {ty t k v n : TypeId} {x y z : Operand} {L L' : List (Nat × Obj)}

theorem run_findS (T : MapSP P t k v) (es : List Ent) (h : List UInt8) (w : World) : (Instr.findKey k (sV h) (es.map entS)).run P w = .ok (fnd h es 0) w := by
  simp [Instr.findKey, run_underlying T.key, findNow_str]

theorem run_checkS (T : MapSP P t k v) (em : Bool) (h : List UInt8) (w : World) : (Instr.checkKey em 10000 k (sV h)).run P w = .ok () w := by
  unfold Instr.checkKey
  simp [run_underlying T.key]

theorem run_staysS (h : List UInt8) (w : World) : (Instr.keyThatStays (sV h) (sV h)).run P w = .ok (sV h) w := by
  have : Instr.sameBits 10000 (sV h) (sV h) = true := by
    show ((⟨h.toArray⟩ : ByteArray) == ⟨h.toArray⟩) = true
    rw [sV_beq]
    exact decide_eq_true rfl
  simp [Instr.keyThatStays, this]

/-! #### Maps, told by what they hold -/

abbrev KV := List UInt8 × Value
def kvOf (x : Ent) : KV := (x.1, x.2.1)
structure WfE (es : List Ent) (clock : Nat) : Prop where
  keys : (es.map (·.1)).Nodup
  born : (es.map (·.2.2)).Nodup
  lt : ∀ x ∈ es, x.2.2 < clock

/-- The object is a map that holds l. -/
def Mp (o : Obj) (l : List KV) : Prop := ∃ es clock, o = mapSO es clock ∧ WfE es clock ∧ (es.map kvOf).Perm l

/-- What stands at a key. -/
def atK (l : List KV) (h : List UInt8) : Option Value := (l.find? fun x => decide (x.1 = h)).map (·.2)

theorem atK_none {l : List KV} {h : List UInt8} : atK l h = none ↔ ∀ x ∈ l, x.1 ≠ h := by
  unfold atK
  rw [Option.map_eq_none_iff, List.find?_eq_none]
  simp

theorem atK_mem {l : List KV} {h : List UInt8} {u : Value} (hn : (l.map (·.1)).Nodup) : atK l h = some u ↔ (h, u) ∈ l := by
  induction l with
  | nil => simp [atK]
  | cons x r ih =>
    rw [List.map_cons, List.nodup_cons] at hn
    unfold atK at ih ⊢
    rw [List.find?_cons]
    by_cases hx : x.1 = h
    · simp only [hx, decide_true, Option.map_some, Option.some.injEq, List.mem_cons]
      constructor
      · rintro rfl; exact .inl (by rw [← hx])
      · rintro (h1 | h1)
        · rw [← h1]
        · exact absurd (List.mem_map_of_mem (f := fun y : KV => y.1) h1) (by rw [hx] at hn; exact hn.1)
    · simp only [hx, decide_false, ih hn.2, List.mem_cons]
      constructor
      · exact .inr
      · rintro (h1 | h1)
        · exact absurd (by rw [← h1]) hx
        · exact h1

theorem Mp.nodup {o : Obj} {l : List KV} (h : Mp o l) : (l.map (·.1)).Nodup := by
  obtain ⟨es, clock, _, hw, hp⟩ := h
  have : ((es.map kvOf).map (·.1)).Nodup := by rw [List.map_map]; exact hw.keys
  exact ((hp.map _).nodup_iff).1 this

theorem Mp.perm {o : Obj} {l l' : List KV} (h : Mp o l) (hp : l.Perm l') : Mp o l' := by
  obtain ⟨es, clock, h1, h2, h3⟩ := h
  exact ⟨es, clock, h1, h2, h3.trans hp⟩

theorem atK_perm {l l' : List KV} (hp : l.Perm l') (hn : (l.map (·.1)).Nodup) (h : List UInt8) : atK l h = atK l' h := by
  have hn' : (l'.map (·.1)).Nodup := ((hp.map _).nodup_iff).1 hn
  apply Option.ext
  intro u
  rw [atK_mem hn, atK_mem hn']
  exact hp.mem_iff

theorem fnd_atK {es : List Ent} {clock : Nat} (hw : WfE es clock) (h : List UInt8) : (fnd h es 0).map (·.2) = atK (es.map kvOf) h := by
  have hn : ((es.map kvOf).map (·.1)).Nodup := by rw [List.map_map]; exact hw.keys
  cases hf : fnd h es 0 with
  | none =>
    symm
    rw [Option.map_none, atK_none]
    intro x hx
    obtain ⟨y, hy, rfl⟩ := List.mem_map.1 hx
    exact fnd_none hf y hy
  | some p =>
    obtain ⟨j, u⟩ := p
    obtain ⟨_, y, hy, h1, h2⟩ := fnd_some hf
    symm
    rw [Option.map_some, atK_mem hn]
    refine List.mem_map.2 ⟨y, List.mem_of_getElem? hy, ?_⟩
    unfold kvOf
    rw [h1, h2]

theorem Ex.makeMapS [Strm] (H : SL w L) : Ex P w e (.makeMap t none) ty fun u w' => ∃ b o, u = .map (some b) ∧ Mp o [] ∧ SL w' ((b, o) :: L) := by
  refine (Ex.makeMap H).mono ?_
  rintro u w' ⟨b, rfl, H⟩
  exact ⟨b, _, rfl, ⟨[], 0, rfl, ⟨.nil, .nil, fun x hx => by cases hx⟩, .nil⟩, H⟩

/-- 'v, ok = m[k]'. -/
theorem Ev.lookupS [Strm] {b : Nat} {o : Obj} {l : List KV} {h : List UInt8} {zv : Value} (H : SL w L) (T : MapSP P t k v) (hx : e.val x = some (.map (some b))) (hy : e.val y = some (sV h)) (hm : (b, o) ∈ L) (ho : Mp o l)
    (hz : zeroT P v = some zv) : Ev P w e (.lookup t x y true) ty (.tuple #[(atK l h).getD zv, .bool (atK l h).isSome]) := .of fun ρ hρ _ _ _ _ => by
  have hnd := ho.nodup
  obtain ⟨es, clock, rfl, hw, hp⟩ := ho
  have hb := H.1 _ hm
  simp only [mapSO] at hb
  have hzr : (zeroValue v).run P w = .ok zv w := by
    unfold zeroT at hz
    cases hi : P.info? v with
    | none => rw [hi] at hz; cases hz
    | some i => rw [hi] at hz; simp only [Option.bind_some] at hz; simp [zeroValue, typeInfo, hi, hz]
  have e1 : atK l h = (fnd h es 0).map (·.2) := by
    rw [fnd_atK hw]
    exact (atK_perm hp (((hp.map _).nodup_iff).2 hnd) h).symm
  rw [e1]
  simp only [execOp, hρ _ _ hx, hρ _ _ hy, Instr.lookup, Sem.run_bind, run_underlying T.map, Result.andThen, MapKept.run_getObj_map hb, Sem.run_pure, run_checkS T, run_findS T]
  cases hf : fnd h es 0 with
  | none => simp [hzr]
  | some p => obtain ⟨j, u⟩ := p; simp

/-- 'm[k]'. -/
theorem Ev.lookupS1 [Strm] {b : Nat} {o : Obj} {l : List KV} {h : List UInt8} {zv : Value} (H : SL w L) (T : MapSP P t k v) (hx : e.val x = some (.map (some b))) (hy : e.val y = some (sV h)) (hm : (b, o) ∈ L) (ho : Mp o l)
    (hz : zeroT P v = some zv) : Ev P w e (.lookup t x y false) ty ((atK l h).getD zv) := .of fun ρ hρ _ _ _ _ => by
  have hnd := ho.nodup
  obtain ⟨es, clock, rfl, hw, hp⟩ := ho
  have hb := H.1 _ hm
  simp only [mapSO] at hb
  have hzr : (zeroValue v).run P w = .ok zv w := by
    unfold zeroT at hz
    cases hi : P.info? v with
    | none => rw [hi] at hz; cases hz
    | some i => rw [hi] at hz; simp only [Option.bind_some] at hz; simp [zeroValue, typeInfo, hi, hz]
  have e1 : atK l h = (fnd h es 0).map (·.2) := by
    rw [fnd_atK hw]
    exact (atK_perm hp (((hp.map _).nodup_iff).2 hnd) h).symm
  rw [e1]
  simp only [execOp, hρ _ _ hx, hρ _ _ hy, Instr.lookup, Sem.run_bind, run_underlying T.map, Result.andThen, MapKept.run_getObj_map hb, Sem.run_pure, run_checkS T, run_findS T]
  cases hf : fnd h es 0 with
  | none => simp [hzr]
  | some p => obtain ⟨j, u⟩ := p; simp

/-- l with u at h. -/
def putK (l : List KV) (h : List UInt8) (u : Value) : List KV := (h, u) :: l.filter fun x => decide (x.1 ≠ h)
def delK (l : List KV) (h : List UInt8) : List KV := l.filter fun x => decide (x.1 ≠ h)

theorem delK_fresh {l : List KV} {h : List UInt8} (hn : ∀ x ∈ l, x.1 ≠ h) : delK l h = l := by
  unfold delK
  rw [List.filter_eq_self]
  intro x hx
  exact decide_eq_true (hn x hx)

theorem split_at {es : List Ent} {j : Nat} {x : Ent} (h : es[j]? = some x) : ∃ l1 l2, es = l1 ++ x :: l2 ∧ l1.length = j := by
  have hlt : j < es.length := by
    rcases Nat.lt_or_ge j es.length with h1 | h1
    · exact h1
    · rw [List.getElem?_eq_none h1] at h; cases h
  rw [List.getElem?_eq_getElem hlt] at h
  cases h
  exact ⟨es.take j, es.drop (j + 1), by rw [← List.drop_eq_getElem_cons hlt, List.take_append_drop], by rw [List.length_take]; omega⟩

theorem del_split {l1 l2 : List Ent} {x : Ent} (hk : ((l1 ++ x :: l2).map (·.1)).Nodup) : delK ((l1 ++ x :: l2).map kvOf) x.1 = (l1 ++ l2).map kvOf := by
  rw [List.map_append, List.map_cons, List.nodup_append] at hk
  obtain ⟨_, h2, h3⟩ := hk
  rw [List.nodup_cons] at h2
  unfold delK
  rw [List.map_append, List.map_cons, List.filter_append, List.filter_cons, List.map_append]
  have e1 : ((l1.map kvOf).filter fun y => decide (y.1 ≠ x.1)) = l1.map kvOf := by
    rw [List.filter_eq_self]
    intro y hy
    obtain ⟨z, hz, rfl⟩ := List.mem_map.1 hy
    exact decide_eq_true (h3 _ (List.mem_map_of_mem hz) _ (.head _))
  have e2 : ((l2.map kvOf).filter fun y => decide (y.1 ≠ x.1)) = l2.map kvOf := by
    rw [List.filter_eq_self]
    intro y hy
    obtain ⟨z, hz, rfl⟩ := List.mem_map.1 hy
    exact decide_eq_true fun he => h2.1 (by rw [← he]; exact List.mem_map_of_mem (f := fun a : Ent => a.1) hz)
  rw [e1, e2]
  simp [kvOf]

theorem putK_perm {l l' : List KV} (hp : l.Perm l') (h : List UInt8) (u : Value) : (putK l h u).Perm (putK l' h u) := (hp.filter _).cons _

/-- 'm[k] = v'. -/
theorem Ex.mapUpdateS [Strm] {b : Nat} {o : Obj} {l : List KV} {h : List UInt8} {u : Value} {M : Obj → List (Nat × Obj)} (H : SL w (M o)) (T : MapSP P t k v) (hx : e.val x = some (.map (some b))) (hy : e.val y = some (sV h)) (hv : e.val z = some u)
    (hu : ∀ o', Upd b o o' (M o) (M o')) (ho : Mp o l) :
    Ex P w e (.mapUpdate t x y z) ty fun _ w' => ∃ o', Mp o' (putK l h u) ∧ SL w' (M o') := .of fun ρ hρ _ _ _ _ => by
  obtain ⟨es, clock, rfl, hw, hp⟩ := ho
  have hb0 := H.1 _ (hu (mapSO es clock)).mem
  have hb := hb0
  simp only [mapSO] at hb
  have hlt : b < w.heap.size := by
    rcases Nat.lt_or_ge b w.heap.size with h | h
    · exact h
    · rw [Array.getElem?_eq_none h] at hb; cases hb
  have fin : ∀ o', SL { w with heap := w.heap.setIfInBounds b o' } (M o') := fun o' => by
    refine H.upd (hu o') (by simp [hlt]) (fun c hc => ?_) ⟨rfl, rfl, rfl⟩
    simp [Ne.symm hc]
  simp only [execOp, hρ _ _ hx, hρ _ _ hy, hρ _ _ hv, Instr.mapUpdate, Sem.run_bind, run_underlying T.map, Result.andThen, MapKept.run_getObj_map hb, run_checkS T, run_findS T]
  cases hf : fnd h es 0 with
  | none =>
    have hnone := fnd_none hf
    simp only [MapKept.run_setObj_map _ hb]
    have e1 : Obj.map ((es.map entS).toArray.push { key := sV h, val := u, born := clock }) (clock + 1) = mapSO (es ++ [(h, u, clock)]) (clock + 1) := by
      simp [mapSO, entS]
    rw [e1]
    refine ⟨_, ⟨es ++ [(h, u, clock)], clock + 1, rfl, ⟨?_, ?_, ?_⟩, ?_⟩, fin _⟩
    · rw [List.map_append, List.nodup_append]
      refine ⟨hw.keys, by simp, ?_⟩
      intro a ha c hc
      simp only [List.map_cons, List.map_nil, List.mem_singleton] at hc
      subst hc
      obtain ⟨y, hy, rfl⟩ := List.mem_map.1 ha
      exact hnone y hy
    · rw [List.map_append, List.nodup_append]
      refine ⟨hw.born, by simp, ?_⟩
      intro a ha c hc
      simp only [List.map_cons, List.map_nil, List.mem_singleton] at hc
      subst hc
      obtain ⟨y, hy, rfl⟩ := List.mem_map.1 ha
      have := hw.lt y hy
      omega
    · intro y hy
      rcases List.mem_append.1 hy with hy | hy
      · have := hw.lt y hy; omega
      · rw [List.mem_singleton] at hy; subst hy; exact Nat.lt_succ_self _
    · rw [List.map_append]
      refine (List.perm_append_comm).trans ?_
      show ((h, u) :: es.map kvOf).Perm (putK l h u)
      refine List.Perm.trans ?_ (putK_perm hp h u)
      unfold putK
      have := delK_fresh (l := es.map kvOf) (h := h) (fun x hx => by obtain ⟨y, hy, rfl⟩ := List.mem_map.1 hx; exact hnone y hy)
      unfold delK at this
      rw [this]
  | some p =>
    obtain ⟨j, u0⟩ := p
    obtain ⟨_, y, hj, hk, _⟩ := fnd_some hf
    rw [Nat.sub_zero] at hj
    obtain ⟨yk, yv, yb⟩ := y
    simp only at hk
    subst hk
    have e0 : ((((es.map entS).toArray[j]?).map (·.key)).getD (sV yk)) = sV yk := by
      simp [hj, entS]
    simp only [e0, run_staysS, Sem.run_bind, Result.andThen, MapKept.run_setObj_map _ hb]
    obtain ⟨l1, l2, rfl, hl⟩ := split_at hj
    have e1 : Obj.map (((l1 ++ (yk, yv, yb) :: l2).map entS).toArray.modify j fun e => { e with key := sV yk, val := u }) clock = mapSO (l1 ++ (yk, u, yb) :: l2) clock := by
      simp only [mapSO]
      congr 1
      apply Array.ext_getElem?
      intro i
      simp only [Array.getElem?_modify, List.getElem?_toArray, List.getElem?_map]
      by_cases hji : j = i
      · subst hji
        rw [← hl]
        simp [entS]
      · rw [if_neg hji]
        rcases Nat.lt_or_gt_of_ne hji with h1 | h1
        · rw [List.getElem?_append_right (by omega), List.getElem?_append_right (by omega)]
          rw [show i - l1.length = (i - l1.length - 1) + 1 by omega]
          rfl
        · rw [List.getElem?_append_left (by omega), List.getElem?_append_left (by omega)]
    rw [e1]
    have hk2 : ((l1 ++ (yk, u, yb) :: l2).map (·.1)) = ((l1 ++ (yk, yv, yb) :: l2).map (·.1)) := by simp
    refine ⟨_, ⟨l1 ++ (yk, u, yb) :: l2, clock, rfl, ⟨by rw [hk2]; exact hw.keys, ?_, ?_⟩, ?_⟩, fin _⟩
    · have : ((l1 ++ (yk, u, yb) :: l2).map (·.2.2)) = ((l1 ++ (yk, yv, yb) :: l2).map (·.2.2)) := by simp
      rw [this]; exact hw.born
    · intro z hz
      rcases List.mem_append.1 hz with hz | hz
      · exact hw.lt z (List.mem_append_left _ hz)
      · rcases List.mem_cons.1 hz with rfl | hz
        · exact hw.lt (yk, yv, yb) (List.mem_append_right _ (.head _))
        · exact hw.lt z (List.mem_append_right _ (.tail _ hz))
    · refine List.Perm.trans ?_ (putK_perm hp yk u)
      have h1 := del_split (x := (yk, yv, yb)) hw.keys
      unfold delK at h1
      unfold putK
      rw [h1, List.map_append, List.map_cons, List.map_append]
      exact List.perm_middle

/-- 'delete(m, k)'. -/
theorem run_deleteS {b clock : Nat} {es : List Ent} {h : List UInt8} (T : MapSP P t k v) (hb : w.heap[b]? = some (mapSO es clock)) :
    (Builtin.delete_ #[t, n] ty #[.map (some b), sV h]).run P w = .ok (.tuple #[]) { w with heap := w.heap.setIfInBounds b (mapSO (match fnd h es 0 with | some (i, _) => es.eraseIdx i | none => es) clock) } := by
  simp only [mapSO] at hb
  simp only [Builtin.delete_, List.getElem?_toArray, List.getElem?_cons_zero, List.getElem?_cons_succ, Sem.run_bind, run_underlying T.map, Result.andThen, MapKept.run_getObj_map hb, run_checkS T, run_findS T]
  cases hf : fnd h es 0 with
  | none => simp only [Sem.run_bind, MapKept.run_setObj_map _ hb, Result.andThen, Sem.run_pure]; rfl
  | some p =>
    obtain ⟨j, u⟩ := p
    obtain ⟨_, x, hx, _⟩ := fnd_some hf
    have hlt : j < es.length := by
      rcases Nat.lt_or_ge j es.length with h1 | h1
      · exact h1
      · rw [Nat.sub_zero, List.getElem?_eq_none h1] at hx; cases hx
    have e1 : (es.map entS).toArray.eraseIdxIfInBounds j = ((es.eraseIdx j).map entS).toArray := by
      rw [Nat.sub_zero] at hx
      obtain ⟨l1, l2, rfl, rfl⟩ := split_at hx
      apply Array.ext'
      have e2 : (l1 ++ x :: l2).eraseIdx l1.length = l1 ++ l2 := by
        rw [List.eraseIdx_append_of_length_le (Nat.le_refl _)]
        simp
      have e3 : ((l1 ++ x :: l2).map entS).eraseIdx l1.length = (l1 ++ l2).map entS := by
        rw [List.map_append, List.map_cons, List.eraseIdx_append_of_length_le (by simp)]
        simp
      rw [e2, ← e3]
      simp [Array.eraseIdxIfInBounds]
    simp only [Sem.run_bind, MapKept.run_setObj_map _ hb, Result.andThen, Sem.run_pure, e1]
    rfl

theorem eraseIdx_split {l1 l2 : List Ent} {x : Ent} : (l1 ++ x :: l2).eraseIdx l1.length = l1 ++ l2 := by
  rw [List.eraseIdx_append_of_length_le (Nat.le_refl _)]
  simp

theorem WfE.del {l1 l2 : List Ent} {x : Ent} {clock : Nat} (h : WfE (l1 ++ x :: l2) clock) : WfE (l1 ++ l2) clock := by
  have hs : (l1 ++ l2).Sublist (l1 ++ x :: l2) := (List.Sublist.refl l1).append (List.sublist_cons_self x l2)
  exact ⟨h.keys.sublist (hs.map _), h.born.sublist (hs.map _), fun y hy => h.lt y (hs.subset hy)⟩

theorem Ex.deleteS [Strm] {b : Nat} {o : Obj} {l : List KV} {h : List UInt8} {M : Obj → List (Nat × Obj)} (H : SL w (M o)) (T : MapSP P t k v) (hx : e.val x = some (.map (some b))) (hy : e.val y = some (sV h))
    (hu : ∀ o', Upd b o o' (M o) (M o')) (ho : Mp o l) :
    Ex P w e (.call ⟨.builtin .delete, #[x, y], #[t, n]⟩) ty fun _ w' => ∃ o', Mp o' (delK l h) ∧ SL w' (M o') := .of fun ρ hρ _ _ _ _ => by
  obtain ⟨es, clock, rfl, hw, hp⟩ := ho
  have hb := H.1 _ (hu (mapSO es clock)).mem
  have hlt : b < w.heap.size := by
    rcases Nat.lt_or_ge b w.heap.size with h | h
    · exact h
    · rw [Array.getElem?_eq_none h] at hb; cases hb
  have fin : ∀ o', SL { w with heap := w.heap.setIfInBounds b o' } (M o') := fun o' => by
    refine H.upd (hu o') (by simp [hlt]) (fun c hc => ?_) ⟨rfl, rfl, rfl⟩
    simp [Ne.symm hc]
  have hrun := run_deleteS (P := P) (n := n) (ty := ty) (h := h) T hb
  simp only [execOp, resolve, invoke, builtin, Sem.run_bind, Sem.run_pure, Result.andThen, List.map_toArray, List.map_cons, List.map_nil, hρ _ _ hx, hρ _ _ hy, hrun]
  refine ⟨_, ⟨_, clock, rfl, ?_, ?_⟩, fin _⟩
  · cases hf : fnd h es 0 with
    | none => exact hw
    | some p =>
      obtain ⟨j, u⟩ := p
      obtain ⟨_, y, hy, _⟩ := fnd_some hf
      rw [Nat.sub_zero] at hy
      obtain ⟨l1, l2, rfl, rfl⟩ := split_at hy
      simp only [eraseIdx_split]
      exact hw.del
  · refine List.Perm.trans ?_ (hp.filter _)
    cases hf : fnd h es 0 with
    | none =>
      have := delK_fresh (l := es.map kvOf) (h := h) (fun x hx => by obtain ⟨y, hy, rfl⟩ := List.mem_map.1 hx; exact fnd_none hf y hy)
      unfold delK at this
      rw [this]
    | some p =>
      obtain ⟨j, u⟩ := p
      obtain ⟨_, y, hy, hk, _⟩ := fnd_some hf
      rw [Nat.sub_zero] at hy
      obtain ⟨l1, l2, rfl, rfl⟩ := split_at hy
      subst hk
      have := del_split (x := y) hw.keys
      unfold delK at this
      simp only [eraseIdx_split, this]
      exact .refl _

end
end Go.Proofs.YtdppnaahdilkcaaGreatDoor.V
end

section
/-
  A way to run code by reckoning (0): lists, by their recursor: the kernel goes through these far quicker.
-/
namespace Go.K

section
variable {α β : Type}

noncomputable def lenR (l : List α) : Nat := List.rec (motive := fun _ => Nat) 0 (fun _ _ ih => Nat.succ ih) l
noncomputable def nthR (l : List α) : Nat → Option α := List.rec (motive := fun _ => Nat → Option α) (fun _ => none) (fun a _ ih n => Bool.rec (ih (Nat.sub n 1)) (some a) (Nat.beq n 0)) l
noncomputable def appR (l m : List α) : List α := List.rec (motive := fun _ => List α) m (fun a _ ih => a :: ih) l
noncomputable def dropR (l : List α) : Nat → List α := List.rec (motive := fun _ => Nat → List α) (fun _ => []) (fun a r ih n => Bool.rec (ih (Nat.sub n 1)) (a :: r) (Nat.beq n 0)) l
noncomputable def takeR (l : List α) : Nat → List α := List.rec (motive := fun _ => Nat → List α) (fun _ => []) (fun a _ ih n => Bool.rec (a :: ih (Nat.sub n 1)) [] (Nat.beq n 0)) l
noncomputable def mapR (f : α → β) (l : List α) : List β := List.rec (motive := fun _ => List β) [] (fun a _ ih => f a :: ih) l
noncomputable def allR (p : α → Bool) (l : List α) : Bool := List.rec (motive := fun _ => Bool) true (fun a _ ih => Bool.rec false ih (p a)) l
noncomputable def revR (l : List α) : List α → List α := List.rec (motive := fun _ => List α → List α) (fun m => m) (fun a _ ih m => ih (a :: m)) l
noncomputable def findR (p : α → Bool) (l : List α) : Option α := List.rec (motive := fun _ => Option α) none (fun a _ ih => Bool.rec ih (some a) (p a)) l
noncomputable def setR (l : List α) : Nat → α → List α := List.rec (motive := fun _ => Nat → α → List α) (fun _ _ => []) (fun a r ih n b => Bool.rec (a :: ih (Nat.sub n 1) b) (b :: r) (Nat.beq n 0)) l
noncomputable def delR (l : List α) : Nat → List α := List.rec (motive := fun _ => Nat → List α) (fun _ => []) (fun a r ih n => Bool.rec (a :: ih (Nat.sub n 1)) r (Nat.beq n 0)) l
noncomputable def repR (n : Nat) (a : α) : List α := Nat.rec (motive := fun _ => List α) [] (fun _ ih => a :: ih) n

/-- The kernel's own way to tell a Bool. -/
theorem brec (c : Bool) (a b : α) : Bool.rec (motive := fun _ => α) b a c = bif c then a else b := by cases c <;> rfl

theorem lenR_eq : ∀ l : List α, lenR l = l.length
  | [] => rfl
  | _ :: r => by show Nat.succ (lenR r) = _; rw [lenR_eq r]; rfl
theorem nthR_eq : ∀ (l : List α) (n : Nat), nthR l n = l[n]?
  | [], _ => by simp [nthR]
  | a :: r, 0 => rfl
  | a :: r, n + 1 => by show nthR r n = _; rw [nthR_eq r n]; simp
theorem appR_eq : ∀ l m : List α, appR l m = l ++ m
  | [], _ => rfl
  | a :: r, m => by show a :: appR r m = _; rw [appR_eq r m]; rfl
theorem dropR_eq : ∀ (l : List α) (n : Nat), dropR l n = l.drop n
  | [], _ => by simp [dropR]
  | a :: r, 0 => rfl
  | a :: r, n + 1 => by show dropR r n = _; rw [dropR_eq r n]; rfl
theorem takeR_eq : ∀ (l : List α) (n : Nat), takeR l n = l.take n
  | [], _ => by simp [takeR]
  | a :: r, 0 => rfl
  | a :: r, n + 1 => by show a :: takeR r n = _; rw [takeR_eq r n]; rfl
theorem mapR_eq (f : α → β) : ∀ l : List α, mapR f l = l.map f
  | [] => rfl
  | a :: r => by show f a :: mapR f r = _; rw [mapR_eq f r]; rfl
theorem allR_eq (p : α → Bool) : ∀ l : List α, allR p l = l.all p
  | [] => rfl
  | a :: r => by
    show Bool.rec (motive := fun _ => Bool) false (allR p r) (p a) = _
    rw [allR_eq p r, List.all_cons]; cases p a <;> rfl
theorem revR_eq : ∀ l m : List α, revR l m = l.reverse ++ m
  | [], _ => rfl
  | a :: r, m => by show revR r (a :: m) = _; rw [revR_eq r]; simp
theorem findR_eq (p : α → Bool) : ∀ l : List α, findR p l = l.find? p
  | [] => rfl
  | a :: r => by
    show Bool.rec (motive := fun _ => Option α) (findR p r) (some a) (p a) = _
    rw [findR_eq p r, List.find?_cons]; cases p a <;> rfl
theorem setR_eq : ∀ (l : List α) (n : Nat) (b : α), setR l n b = l.set n b
  | [], _, _ => by simp [setR]
  | a :: r, 0, b => rfl
  | a :: r, n + 1, b => by show a :: setR r n b = _; rw [setR_eq r n b]; rfl
theorem delR_eq : ∀ (l : List α) (n : Nat), delR l n = l.eraseIdx n
  | [], _ => by simp [delR]
  | a :: r, 0 => rfl
  | a :: r, n + 1 => by show a :: delR r n = _; rw [delR_eq r n]; rfl
theorem repR_eq : ∀ (n : Nat) (a : α), repR n a = List.replicate n a
  | 0, _ => rfl
  | n + 1, a => by show a :: repR n a = _; rw [repR_eq n a]; rfl
end

end Go.K
end
