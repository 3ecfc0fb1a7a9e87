/-
  The engine: slices of one's own: literal, make, append, copy; bytes and strings.
-/
import Derived.Test.YtniihnncgblocaaDoorVEx
namespace Go.Proofs.YtniihnncgblocaaDoor.V

section
variable {P : Program} {w : World} {e : Env} {ty t t2 : TypeId} {x y z : Operand} {v u : Value} {L L' B : List (Nat × Obj)}

/-- A slice or a string (append's second argument). -/
def srcT (P : Program) (t : TypeId) : Bool := match P.underlying t with
  | some (.slice _) | some .string => true
  | _ => false

theorem srcT_spec (h : srcT P t = true) : (∃ e, P.underlying t = some (.slice e)) ∨ P.underlying t = some .string := by
  unfold srcT at h
  split at h
  · rename_i e h'; exact .inl ⟨e, h'⟩
  · rename_i h'; exact .inr h'
  · cases h

theorem slT_spec {el sz : Nat} (ht : slT P t = some (el, sz)) : P.underlying t = some (.slice el) ∧ ∃ i, P.info? el = some i ∧ i.size = sz := by
  unfold slT at ht
  split at ht
  · rename_i e hu
    cases hi : P.info? e with
    | none => rw [hi] at ht; cases ht
    | some i =>
      rw [hi] at ht
      simp at ht
      obtain ⟨rfl, rfl⟩ := ht
      exact ⟨hu, i, hi, rfl⟩
  · cases ht

/-- What is appended: m elements, whose cells are vs. -/
inductive Src (w : World) (sz : Nat) : Value → Nat → List Value → Prop where
  | nil (c : Nat) : Src w sz (.slice none 0 c) 0 []
  | slice (a : Addr) (m c : Nat) (vs : List Value) : vs.length = m * sz → (∀ i v, vs[i]? = some v → w.cell? (a.add i) = some v) → Src w sz (.slice (some a) m c) m vs
  | string (s : ByteArray) : sz = 1 → Src w sz (.string s) s.size (s.data.toList.map fun b => .int .u8 b.toNat)

theorem Src.len {w : World} {sz m : Nat} {vs : List Value} (h : Src w sz u m vs) : (Builtin.lenOf u).run P w = .ok m w := by
  cases h <;> simp [Builtin.lenOf]

theorem Src.count {w : World} {sz m : Nat} {vs : List Value} (h : Src w sz u m vs) : vs.length = m * sz := by
  cases h with
  | nil => simp
  | slice _ _ _ _ h => exact h
  | string s hs => subst hs; simp

theorem Src.first {w : World} {sz m : Nat} {vs : List Value} (h : Src w sz u m vs) : (Builtin.firstCells sz m u).run P w = .ok vs.toArray w := by
  cases h with
  | nil => simp [Builtin.firstCells]
  | slice a m c vs hl hc =>
    simp only [Builtin.firstCells]
    rw [← hl]
    exact run_loadCells_list w a vs hc
  | string s hs =>
    simp only [Builtin.firstCells, Sem.run_pure]
    congr 1
    have : s.extract 0 s.size = s := by
      apply ByteArray.ext
      simp
    rw [this]
    apply Array.ext'
    simp

theorem Src.drew {w w' : World} {sz m : Nat} {vs : List Value} (h : Src w sz u m vs) (hw : w'.heap = w.heap) : Src w' sz u m vs := by
  cases h with
  | nil => exact .nil _
  | slice a m c vs hl hc => exact .slice a m c vs hl fun i v hi => by have := hc i v hi; simpa [World.cell?, hw] using this
  | string s hs => exact .string s hs

/-- The general form of an append: within the room there is. -/
theorem run_append_in {el sz n m cap : Nat} {g : Nat} {cs : Array Value} {T : TypeId} {vs : List Value} (ht : slT P t = some (el, sz)) (h2 : srcT P t2 = true) (hs : Src w sz u m vs)
    {fr : Nat × Nat} (hb : w.heap[g]? = some (.cells cs T fr)) (hfr : Thaw fr 0 (cap * sz)) (hone : ∀ v ∈ vs, v.oneCell' = true) (hroom : n + m ≤ cap) (hsz : cap * sz ≤ cs.size) :
    ∃ w', (Builtin.append_ #[t, t2] ty #[.slice (some ⟨g, 0, none⟩) n cap, u]).run P w = .ok (.slice (some ⟨g, 0, none⟩) (n + m) cap) w' ∧
      w'.heap[g]? = some (.cells (putAt cs (n * sz) vs) T fr) ∧ (∀ c, c ≠ g → w'.heap[c]? = w.heap[c]?) ∧ Same w w' := by
  obtain ⟨hu, inf, hi, rfl⟩ := slT_spec ht
  have hlen : (n + m) * inf.size ≤ cap * inf.size := Nat.mul_le_mul_right _ hroom
  have hcnt := hs.count
  obtain ⟨w', hr, h1, h3, h6⟩ := run_storeCells (P := P) vs hone w (n * inf.size) 0 cs hb (by rw [hcnt]; rw [Nat.add_mul] at hlen; omega) (fun j h4 h5 => hfr.not j (by omega) (by rw [hcnt] at h5; rw [Nat.add_mul] at hlen; omega))
  refine ⟨w', ?_, by simpa using h1, h3, h6⟩
  have hl := hs.len (P := P)
  have hf := hs.first (P := P)
  rcases srcT_spec h2 with ⟨e2, hu2⟩ | hu2
  · simp [Builtin.append_, run_underlying hu, run_underlying hu2, sizeOf, typeInfo, hi, hl, hroom, hf, add_none, hr]
  · simp [Builtin.append_, run_underlying hu, run_underlying hu2, sizeOf, typeInfo, hi, hl, hroom, hf, add_none, hr]

/-- The general form of an append: beyond it. -/
theorem run_append_out {el sz by_ n m cap : Nat} {zv : Value} {a : Option Addr} {xs vs : List Value} (ht : slT P t = some (el, sz)) (hby : bytesT P el = some by_) (hz : zeroT P el = some zv) (h2 : srcT P t2 = true)
    (hs : Src w sz u m vs) (hx : ∀ w', w'.heap = w.heap → (Builtin.firstCells sz n (.slice a n cap)).run P w' = .ok xs.toArray w') (hroom : cap < n + m) (h63 : n + m ≤ 9223372036854775807) (hbytes : (n + m) * by_ ≤ 140737488355328) :
    ∃ w' cap', (Builtin.append_ #[t, t2] ty #[.slice a n cap, u]).run P w = .ok (.slice (some ⟨w.heap.size, 0, none⟩) (n + m) cap') w' ∧ n + m ≤ cap' ∧
      w'.heap = w.heap.push (.cells (xs ++ vs ++ (Builtin.zeroCells zv.cells (cap' - (n + m))).toList).toArray el (0, 0)) ∧ Same w w' := by
  obtain ⟨hu, inf, hi, rfl⟩ := slT_spec ht
  simp only [bytesT, hi, Option.map_some, Option.some.injEq] at hby
  simp only [zeroT, hi, Option.bind_some] at hz
  subst hby
  have hfit := growslice_fits hroom hbytes
  have hn : ¬ (n + m ≤ cap) := by omega
  have h63' : ¬ (9223372036854775807 < ((n : Int) + (m : Int))) := by omega
  have h48' : ¬ (281474976710656 < Builtin.nextslicecap (n + m) cap * inf.bytes) := by omega
  have hl := hs.len (P := P)
  have hf := (hs.drew (w' := w.drew) rfl).first (P := P)
  have hfo := hx w.drew rfl
  refine ⟨w.drew.alloc (.cells (xs ++ vs ++ (Builtin.zeroCells zv.cells (grownCap w (n + m) cap el - (n + m))).toList).toArray el), grownCap w (n + m) cap el, ?_, grownCap_ge _ _ _ _, rfl, rfl, rfl, rfl⟩
  rcases srcT_spec h2 with ⟨e2, hu2⟩ | hu2
  · simp [Builtin.append_, run_underlying hu, run_underlying hu2, sizeOf, typeInfo, zeroValue, hi, hz, hl, hn, h63', h48', Question.forced, hf, hfo, newRow, grownCap]
    congr 2
    apply Array.ext'
    simp
  · simp [Builtin.append_, run_underlying hu, run_underlying hu2, sizeOf, typeInfo, zeroValue, hi, hz, hl, hn, h63', h48', Question.forced, hf, hfo, newRow, grownCap]
    congr 2
    apply Array.ext'
    simp

theorem zeroCells_len (zs : Array Value) (n : Nat) : (Builtin.zeroCells zs n).toList.length = n * zs.size := by simp [Builtin.zeroCells]

/-- Append onto a slice of one's own. -/
theorem Ex.append [Strm] {α : Type} {g : α → List Value} {sz by_ : Nat} {T : TypeId} {zv : Value} {xs ys : List α} (H : SL w (B ++ L)) (hx : e.val x = some v) (hy : e.val y = some u) (hs : Slc g sz T v xs B)
    (hsrc : Src w sz u ys.length (ys.flatMap g)) (hg : ∀ x, (g x).length = sz) (hone : ∀ x, ∀ v ∈ g x, v.oneCell' = true) (ht : slT P t = some (T, sz)) (h2 : srcT P t2 = true) (hby : bytesT P T = some by_)
    (hz : zeroT P T = some zv) (hzs : zv.cells.size = sz) (h63 : xs.length + ys.length ≤ 9223372036854775807) (hbytes : (xs.length + ys.length) * by_ ≤ 140737488355328) :
    Ex P w e (.call ⟨.builtin .append, #[x, y], #[t, t2]⟩) ty fun v' w' => ∃ B', Slc g sz T v' (xs ++ ys) B' ∧ SL w' (B' ++ L) := .of fun ρ hρ _ _ _ _ => by
  have hxs := flatMap_length hg xs
  have hys := flatMap_length hg ys
  have hone' : ∀ v ∈ ys.flatMap g, v.oneCell' = true := fun v hv => by
    obtain ⟨x, _, hx⟩ := List.mem_flatMap.1 hv
    exact hone x v hx
  have fin : ∀ v' w', (Builtin.append_ #[t, t2] ty #[v, u]).run P w = .ok v' w' → (∃ B', Slc g sz T v' (xs ++ ys) B' ∧ SL w' (B' ++ L)) →
      Lands P (fun v' w' => ∃ B', Slc g sz T v' (xs ++ ys) B' ∧ SL w' (B' ++ L)) ((execOp ρ ⟨‹_›, .call ⟨.builtin .append, #[x, y], #[t, t2]⟩, ty, ‹_›, ‹_›, ‹_›⟩).run P w) := fun v' w' hr h => by
    have e1 : (execOp ρ ⟨‹_›, .call ⟨.builtin .append, #[x, y], #[t, t2]⟩, ty, ‹_›, ‹_›, ‹_›⟩).run P w = .ok (.value v') w' := by
      simp [execOp, resolve, invoke, builtin, hρ _ _ hx, hρ _ _ hy, hr]
    rw [e1]
    exact h
  have mk : ∀ (w' : World) (g' cap' : Nat) (zs : List Value), xs.length + ys.length ≤ cap' → zs.length = (cap' - (xs.length + ys.length)) * sz →
      SL w' ((g', .cells (xs.flatMap g ++ ys.flatMap g ++ zs).toArray T (0, 0)) :: L) →
      ∃ B', Slc g sz T (.slice (some ⟨g', 0, none⟩) (xs.length + ys.length) cap') (xs ++ ys) B' ∧ SL w' (B' ++ L) := fun w' g' cap' zs hc hzl h => by
    refine ⟨[(g', .cells ((xs ++ ys).flatMap g ++ zs).toArray T (0, 0))], ?_, by simpa [List.flatMap_append] using h⟩
    have := Slc.blk (g := g) (sz := sz) (T := T) g' (xs ++ ys) cap' zs (0, 0) (by rw [hzl, List.length_append, ← Nat.add_mul]; congr 1; omega) (by simpa using hc) (Thaw.zero _ _)
    simpa using this
  cases hs with
  | nil =>
    simp only [List.length_nil, Nat.zero_add, List.nil_append, List.flatMap_nil] at *
    by_cases h0 : ys.length = 0
    · have hys0 : ys = [] := List.eq_nil_of_length_eq_zero h0
      subst hys0
      obtain ⟨hu, inf, hi, rfl⟩ := slT_spec ht
      have hl := hsrc.len (P := P)
      have hf := hsrc.first (P := P)
      simp only [List.length_nil, List.flatMap_nil] at hl hf
      refine fin (.slice none 0 0) w ?_ ⟨[], .nil, H⟩
      rcases srcT_spec h2 with ⟨e2, hu2⟩ | hu2
      · simp [Builtin.append_, run_underlying hu, run_underlying hu2, sizeOf, typeInfo, hi, hl, hf]
      · simp [Builtin.append_, run_underlying hu, run_underlying hu2, sizeOf, typeInfo, hi, hl, hf]
    · obtain ⟨w', cap', hr, hc, hh, hk⟩ := run_append_out (P := P) (t := t) (t2 := t2) (ty := ty) (n := 0) (cap := 0) (a := none) (xs := []) ht hby hz h2 hsrc (fun w' _ => by simp [Builtin.firstCells]) (by omega) (by omega) (by simpa using hbytes)
      simp only [Nat.zero_add, List.nil_append] at hr hc hh
      refine fin _ _ hr (mk w' _ _ (Builtin.zeroCells zv.cells (cap' - ys.length)).toList hc ?_ ?_)
      · rw [zeroCells_len, hzs]
      · have h3 := H.alloc (.cells (ys.flatMap g ++ (Builtin.zeroCells zv.cells (cap' - ys.length)).toList).toArray T (0, 0))
        exact h3.heap hh hk
  | blk b xs' cap spare fr hsp hle hfr =>
    by_cases hroom : xs.length + ys.length ≤ cap
    · have hm : (b, Obj.cells (xs.flatMap g ++ spare).toArray T fr) ∈ [(b, Obj.cells (xs.flatMap g ++ spare).toArray T fr)] ++ L := .head _
      have hmul : (xs.length + ys.length) * sz ≤ cap * sz := Nat.mul_le_mul_right _ hroom
      rw [Nat.add_mul] at hmul
      obtain ⟨w', hr, h1, h3, hk⟩ := run_append_in (P := P) (t := t) (t2 := t2) (ty := ty) ht h2 hsrc (H.1 _ hm) hfr hone' hroom (by simp only [List.size_toArray, List.length_append, hxs]; omega)
      refine fin _ _ hr ⟨[(b, .cells ((xs ++ ys).flatMap g ++ spare.drop (ys.length * sz)).toArray T fr)], ?_, ?_⟩
      · have := Slc.blk (g := g) (sz := sz) (T := T) b (xs ++ ys) cap (spare.drop (ys.length * sz)) fr (by simp only [List.length_drop, List.length_append, Nat.add_mul]; omega) (by simpa using hroom) hfr
        simpa using this
      · have e1 : putAt (xs.flatMap g ++ spare).toArray (xs.length * sz) (ys.flatMap g) = ((xs ++ ys).flatMap g ++ spare.drop (ys.length * sz)).toArray := by
          have h4 : spare = spare.take (ys.length * sz) ++ spare.drop (ys.length * sz) := (List.take_append_drop _ _).symm
          conv => lhs; rw [h4, ← List.append_assoc]
          rw [putAt_append hxs (by rw [hys, List.length_take]; omega), List.flatMap_append]
        rw [e1] at h1
        exact H.upd .head h1 h3 hk
    · have hfo : ∀ w', w'.heap = w.heap → (Builtin.firstCells sz xs.length (.slice (some ⟨b, 0, none⟩) xs.length cap)).run P w' = .ok (xs.flatMap g).toArray w' := fun w' hw => by
        have hm : (b, Obj.cells (xs.flatMap g ++ spare).toArray T fr) ∈ [(b, Obj.cells (xs.flatMap g ++ spare).toArray T fr)] ++ L := .head _
        simp only [Builtin.firstCells]
        rw [← hxs]
        refine run_loadCells_list w' _ _ fun i v hi => ?_
        rw [add_none, Nat.zero_add]
        refine Rd.cellH (L := [(b, Obj.cells (xs.flatMap g ++ spare).toArray T fr)] ++ L) (fun p hp => by rw [hw]; exact H.1 p hp) (Rd.mk hm ?_)
        rw [List.getElem?_toArray]
        have hlt : i < (xs.flatMap g).length := by
          rcases Nat.lt_or_ge i (xs.flatMap g).length with h | h
          · exact h
          · rw [List.getElem?_eq_none h] at hi; cases hi
        rw [List.getElem?_append_left hlt]
        exact hi
      obtain ⟨w', cap', hr, hc, hh, hk⟩ := run_append_out (P := P) (t := t) (t2 := t2) (ty := ty) ht hby hz h2 hsrc hfo (by omega) h63 hbytes
      refine fin _ _ hr (mk w' _ _ (Builtin.zeroCells zv.cells (cap' - (xs.length + ys.length))).toList hc ?_ ?_)
      · rw [zeroCells_len, hzs]
      · have h3 := (SL.dropL H).alloc (.cells (xs.flatMap g ++ ys.flatMap g ++ (Builtin.zeroCells zv.cells (cap' - (xs.length + ys.length))).toList).toArray T (0, 0))
        exact h3.heap hh hk

/-! ### Literals, make, copy -/

def Env.parts (e : Env) : Nat → List (Nat × Operand) → Option (List Value)
  | _, [] => some []
  | k, (i, x) :: r => bif Nat.beq i k then (match e.val x with
    | none => none
    | some v => match Env.parts e (k + 1) r with
      | none => none
      | some vs => some (v :: vs)) else none

theorem fill_row {ρ : Operand → Value} (hρ : Knows ρ e) : ∀ {l : List (Nat × Operand)} {vs : List Value} {k : Nat} {cs : Array Value}, e.parts k l = some vs → (∀ v ∈ vs, v.oneCell' = true) → k + vs.length ≤ cs.size →
    Instr.fill (fun i => some (i * 1, 1)) cs (l.map fun (i, x) => (i, ρ x)) = some (putAt cs k vs)
  | [], vs, k, cs, h, _, _ => by simp [Env.parts] at h; subst h; rfl
  | (i, x) :: r, vs, k, cs, h, h1, hk => by
    unfold Env.parts at h
    cases hb : Nat.beq i k with
    | false => rw [hb] at h; cases h
    | true =>
      rw [hb] at h
      simp only [cond_true] at h
      have hik : i = k := Nat.eq_of_beq_eq_true hb
      subst hik
      cases hx : e.val x with
      | none => rw [hx] at h; cases h
      | some v =>
        rw [hx] at h
        cases hr : e.parts (i + 1) r with
        | none => rw [hr] at h; cases h
        | some vs' =>
          rw [hr] at h
          cases h
          have hv := h1 v (.head _)
          have hc : v.cells = #[v] := by cases v <;> first | rfl | simp [Value.oneCell'] at hv
          simp only [List.length_cons] at hk
          have hrec := fill_row hρ (cs := cs.setIfInBounds i v) hr (fun v hv => h1 v (.tail _ hv)) (by simp; omega)
          have hge : ¬ cs.size < i + 1 := by omega
          simp only [List.map_cons, Instr.fill, hρ _ _ hx, hc]
          simp only [Nat.mul_one, List.size_toArray, List.length_cons, List.length_nil, Nat.zero_add, ne_eq, not_true, decide_false, Bool.false_or, gt_iff_lt, hge, Bool.false_eq_true, if_false]
          simpa [putAt] using hrec

theorem Ex.buildSl [Strm] {len : Nat} {l : List (Nat × Operand)} {vs : List Value} {T : TypeId} {zv : Value} (H : SL w L) (hl : e.parts 0 l = some vs) (ht : slT P t = some (T, 1)) (hz : zeroT P T = some zv)
    (h1 : ∀ v ∈ vs, v.oneCell' = true) (hn : vs.length = len) (h0 : 0 < len) (hlen : len ≤ 16777216) :
    Ex P w e (.buildSlice t len l.toArray) ty fun v w' => ∃ b, v = .slice (some ⟨b, 0, none⟩) len len ∧ SL w' ((b, .cells vs.toArray T (0, 0)) :: L) := .of fun ρ hρ _ _ _ _ => by
  obtain ⟨hu, inf, hi, hs⟩ := slT_spec ht
  simp only [zeroT, hi, Option.bind_some] at hz
  have h24 : ¬ (len * 1 > 2 ^ 24) := by omega
  have hne : ¬ (len * 1 = 0) := by omega
  have hfill := fill_row (e := e) hρ (cs := (Array.range (len * 1)).map (zv.cells[· % zv.cells.size]!)) hl h1 (by simp [hn])
  rw [putAt_all (by simp [hn])] at hfill
  simp only [execOp, Instr.buildSlice, Sem.run_bind, run_underlying hu, Result.andThen, sizeOf, typeInfo, run_program, hi, hs, Sem.run_pure, h24, hne, if_false, zeroValue, hz]
  simp only [List.map_toArray] at *
  rw [hfill]
  simp only [newRow, Sem.run_bind, run_newObj, Result.andThen, Sem.run_pure]
  exact ⟨w.heap.size, rfl, H.alloc _⟩

theorem range_zero (z : Value) (hz : z.oneCell' = true) (n : Nat) : ((Array.range n).map (z.cells[· % z.cells.size]!)) = (List.replicate n z).toArray := by
  have hc : z.cells = #[z] := by cases z <;> first | rfl | simp [Value.oneCell'] at hz
  rw [hc]
  apply Array.ext_getElem?
  intro i
  by_cases hi : i < n
  · simp [hi, Nat.mod_one]
  · simp [hi]

theorem Ex.makeSl [Strm] {lo co : Operand} {ln cp : Nat} {T : TypeId} {zv : Value} {by_ : Nat} {k k' : IntKind} (H : SL w L) (hlo : e.val lo = some (.int k (ln : Nat))) (hco : e.val co = some (.int k' (cp : Nat))) (ht : slT P t = some (T, 1))
    (hby : bytesT P T = some by_) (hz : zeroT P T = some zv) (h1 : zv.oneCell' = true) (hle : ln ≤ cp) (hc : cp ≤ 9223372036854775807) (hb : by_ * cp ≤ 281474976710656) :
    Ex P w e (.makeSlice t lo co) ty fun v w' => ∃ b, v = .slice (some ⟨b, 0, none⟩) ln cp ∧ SL w' ((b, .cells (List.replicate cp zv).toArray T (0, 0)) :: L) := .of fun ρ hρ _ _ _ _ => by
  obtain ⟨hu, inf, hi, hs⟩ := slT_spec ht
  simp only [zeroT, hi, Option.bind_some] at hz
  simp only [bytesT, hi, Option.map_some, Option.some.injEq] at hby
  subst hby
  have w1 : IntKind.i64.wrap (ln : Int) = ln := qi64 (by omega) (by omega)
  have w2 : IntKind.i64.wrap (cp : Int) = cp := qi64 (by omega) (by omega)
  have hb' : ¬ ((inf.bytes : Int) * (cp : Int) > 2 ^ 48) := by
    have : ((inf.bytes * cp : Nat) : Int) ≤ 281474976710656 := by omega
    rw [Int.natCast_mul] at this
    omega
  have hle' : ¬ ((ln : Int) > (cp : Int)) := by omega
  have hc0 : ¬ ((cp : Int) < 0) := by omega
  have hl0 : ¬ ((ln : Int) < 0) := by omega
  have hrun : (Instr.makeSlice t (.int k ln) (.int k' cp)).run P w = .ok (.slice (some ⟨w.heap.size, 0, none⟩) ln cp) { w with heap := w.heap.push (.cells (List.replicate cp zv).toArray T (0, 0)) } := by
    by_cases h0 : cp = 0
    · subst h0
      have hln : ln = 0 := by omega
      subst hln
      have w0 : IntKind.i64.wrap 0 = 0 := by decide +kernel
      simp [Instr.makeSlice, run_underlying hu, asInt, asIntOf, typeInfo, hi, sizeOf, newRow, w0]
      congr 2
      apply Array.ext'
      simp
    · have hr := range_zero zv h1 cp
      simp only [Instr.makeSlice, Sem.run_bind, run_underlying hu, Result.andThen, asInt, asIntOf, Sem.run_pure, typeInfo, run_program, hi, w1, w2]
      have hb2 : ¬ (281474976710656 < (inf.bytes : Int) * (cp : Int)) := by omega
      simp [hc0, hl0, hle', hb2, run_askRoom, sizeOf, typeInfo, hi, hs, h0, zeroValue, hz, newRow, hr]
  simp only [execOp, hρ _ _ hlo, hρ _ _ hco, Sem.run_bind, hrun, Result.andThen]
  exact ⟨w.heap.size, rfl, H.alloc _⟩

/-- copy: what is read (vs, out of the source) is laid into the row of the destination. -/
theorem Ex.copy [Strm] {b off dl dc n sl sz : Nat} {T el : TypeId} {fr : Nat × Nat} {cs cs' : Array Value} {vs : List Value} {a : Option Addr} {sc : Nat} (H : SL w L) (hx : e.val x = some (.slice (some ⟨b, off, none⟩) dl dc))
    (hy : e.val y = some (.slice a sl sc)) (ht : slT P t = some (el, sz)) (hn : Nat.min sl dl = n) (hvs : vs.length = n * sz)
    (hread : match a with | none => vs = [] | some ad => ∀ i v, vs[i]? = some v → Rd L (ad.add i) v) (hone : ∀ v ∈ vs, v.oneCell' = true)
    (hu : Upd b (.cells cs T fr) (.cells cs' T fr) L L') (hoff : off + n * sz ≤ cs.size) (hfr : Thaw fr off (n * sz)) (hcs : putAt cs off vs = cs') :
    Ex P w e (.call ⟨.builtin .copy, #[x, y], #[t, t2]⟩) ty fun v w' => v = .int .i64 (n : Nat) ∧ SL w' L' := .of fun ρ hρ _ _ _ _ => by
  obtain ⟨hu', inf, hi, rfl⟩ := slT_spec ht
  have hm := H.1 _ hu.mem
  obtain ⟨w', hr, h1, h2, h3⟩ := run_storeCells (P := P) vs hone w off 0 cs hm (by omega) (by simp only [Nat.add_zero]; rw [hvs]; exact hfr.not)
  have hf : (Builtin.firstCells inf.size n (.slice a sl sc)).run P w = .ok vs.toArray w := by
    cases a with
    | none => simp only at hread; subst hread; simp [Builtin.firstCells]
    | some ad =>
      simp only at hread
      simp only [Builtin.firstCells]
      rw [← hvs]
      exact run_loadCells_list w ad vs fun i v hi => Rd.cell H (hread i v hi)
  have hrun : (Builtin.copy_ #[t, t2] ty #[.slice (some ⟨b, off, none⟩) dl dc, .slice a sl sc]).run P w = .ok (.int .i64 (n : Nat)) w' := by
    simp [Builtin.copy_, run_underlying hu', Builtin.lenOf, sizeOf, typeInfo, hi, hn, hf, hr, goInt]
  have hS : SL w' L' := H.upd hu (by rw [h1]; simp [hcs]) h2 h3
  have e1 : (execOp ρ ⟨‹_›, .call ⟨.builtin .copy, #[x, y], #[t, t2]⟩, ty, ‹_›, ‹_›, ‹_›⟩).run P w = .ok (.value (.int .i64 (n : Nat))) w' := by
    simp [execOp, resolve, invoke, builtin, hρ _ _ hx, hρ _ _ hy, hrun]
  rw [e1]
  exact ⟨rfl, hS⟩

/-! ### Bytes and strings -/

abbrev BV (x : UInt8) : Value := .int .u8 (x.toNat : Int)

/-- 'string(b)'. -/
theorem Ev.bytesStr [Strm] {ad : Addr} {n c : Nat} {el : TypeId} {bs : List UInt8} (H : SL w L) (hx : e.val x = some (.slice (some ad) n c)) (hs : P.underlying t = some (.slice el)) (he : P.underlying el = some (.int .u8)) (hd : P.underlying t2 = some .string)
    (hn : bs.length = n) (hr : ∀ i v, (bs.map BV)[i]? = some v → Rd L (ad.add i) v) : Ev P w e (.convert t t2 x) ty (.string ⟨bs.toArray⟩) := .of fun ρ hρ _ _ _ _ => by
  have hl := run_loadCells_list (P := P) w ad (bs.map BV) fun i v hi => Rd.cell H (hr i v hi)
  rw [List.length_map, hn] at hl
  have hrun := run_bytesToString (P := P) w ad n c (bs.map fun b => (b.toNat : Int)) (by rw [hl]; simp [List.map_map, Function.comp_def])
  rw [foldl_push_bytes] at hrun
  have e1 : (ByteArray.mk (ByteArray.empty.data ++ ((bs.map fun b => (b.toNat : Int)).map fun n => UInt8.ofNat n.toNat).toArray)) = ⟨bs.toArray⟩ := by
    congr 1
    apply Array.ext'
    simp [List.map_map, Function.comp_def]
  rw [e1] at hrun
  simp [execOp, hρ _ _ hx, convert, run_underlying hs, run_underlying he, run_underlying hd, hrun]

theorem Ev.nilStr {n c : Nat} {el : TypeId} (hx : e.val x = some (.slice none n c)) (hs : P.underlying t = some (.slice el)) (he : P.underlying el = some (.int .u8)) (hd : P.underlying t2 = some .string) :
    Ev P w e (.convert t t2 x) ty (.string .empty) := .of fun ρ hρ _ _ _ _ => by
  simp [execOp, hρ _ _ hx, convert, run_underlying hs, run_underlying he, run_underlying hd, Conv.bytesToString]

/-- A byte slice that is marked as one that a string may share: it reads as it did. -/
theorem Ex.mark [Strm] {b off n c : Nat} {el T : TypeId} {cs : Array Value} (H : SL w L) (hx : e.val x = some (.slice (some ⟨b, off, none⟩) n c)) (hs : P.underlying t = some (.slice el)) (he : P.underlying el = some (.int .u8))
    (hu : Upd b (.cells cs T (0, 0)) (.cells cs T (cs.size, cs.size + 1)) L L') :
    Ex P w e (.convert t t x) ty fun v w' => v = .slice (some ⟨b, off, none⟩) n c ∧ SL w' L' := .of fun ρ hρ _ _ _ _ => by
  have hm := H.1 _ hu.mem
  have hsh : w.shape? b = some (T, cs.size) := by simp [World.shape?, hm]
  have hrun : (convert t t (.slice (some ⟨b, off, none⟩) n c)).run P w = .ok (.slice (some ⟨b, off, none⟩) n c) (w.freeze ⟨b, cs.size, none⟩ 1) := by
    simp [convert, run_underlying hs, run_underlying he, markStringish, hsh]
  have hS : SL (w.freeze ⟨b, cs.size, none⟩ 1) L' := by
    refine H.upd hu ?_ (fun c hc => ?_) ⟨rfl, rfl, rfl⟩
    · simp [World.freeze, Array.getElem?_modify, hm]
    · simp [World.freeze, Array.getElem?_modify, Ne.symm hc]
  simp only [execOp, hρ _ _ hx, Sem.run_bind, hrun, Result.andThen]
  exact ⟨rfl, hS⟩

/-- '[]byte(s)'. -/
theorem Ex.strBytes [Strm] {el : TypeId} {s : ByteArray} (H : SL w L) (hx : e.val x = some (.string s)) (hs : P.underlying t = some .string) (hd : P.underlying t2 = some (.slice el)) (he : P.underlying el = some (.int .u8)) :
    Ex P w e (.convert t t2 x) ty fun v w' => ∃ B, Slc (fun b => [BV b]) 1 el v s.data.toList B ∧ SL w' (B ++ L) := .of fun ρ hρ _ _ _ _ => by
  let cap := s.size + (w.tape w.drawn (.appendCap s.size 0 el)) % (2 ^ 63 - s.size)
  let c : Array Value := s.data.map (fun b => BV b) ++ Array.replicate (cap - s.size) (.int .u8 0)
  have hcs : c.size = cap := by simp [c, cap]
  let w1 : World := { w with drawn := w.drawn + 1, heap := w.heap.push (.cells c el (0, 0)) }
  have hsh : w1.shape? w.heap.size = some (el, cap) := by simp [World.shape?, w1, hcs]
  have hrun : (convert t t2 (.string s)).run P w = .ok (.slice (some ⟨w.heap.size, 0, none⟩) s.size cap) (w1.freeze ⟨w.heap.size, cap, none⟩ 1) := by
    simp only [convert, Sem.run_bind, run_underlying hs, Result.andThen, run_underlying hd, run_underlying he, Conv.stringToBytes, run_choose, Question.forced, Question.cut, Bool.false_eq_true, if_false, newRow, run_newObj, Sem.run_pure, markStringish, run_shape]
    rw [show ({ w with drawn := w.drawn + 1, heap := w.heap.push (.cells (s.data.map (fun b => BV b) ++ Array.replicate (s.size + w.tape w.drawn (.appendCap s.size 0 el) % (2 ^ 63 - s.size) - s.size) (.int .u8 0)) el (0, 0)) } : World) = w1 from rfl]
    simp [hsh, cap]
  have H1 : SL w1 ((w.heap.size, .cells c el (0, 0)) :: L) := (H.alloc (.cells c el (0, 0))).heap rfl ⟨rfl, rfl, rfl⟩
  have hm := H1.1 _ (.head _)
  have H2 : SL (w1.freeze ⟨w.heap.size, cap, none⟩ 1) ((w.heap.size, .cells c el (cap, cap + 1)) :: L) := by
    refine H1.upd .head ?_ (fun c hc => ?_) ⟨rfl, rfl, rfl⟩
    · simp [World.freeze, Array.getElem?_modify, hm]
    · simp [World.freeze, Array.getElem?_modify, Ne.symm hc]
  simp only [execOp, hρ _ _ hx, Sem.run_bind, hrun, Result.andThen]
  refine ⟨[(w.heap.size, .cells (s.data.toList.flatMap (fun b => [BV b]) ++ List.replicate (cap - s.size) (Value.int .u8 0)).toArray el (cap, cap + 1))], ?_, ?_⟩
  · have := Slc.blk (g := fun b => [BV b]) (sz := 1) (T := el) w.heap.size s.data.toList cap (List.replicate (cap - s.size) (Value.int .u8 0)) (cap, cap + 1) (by simp [cap]; omega) (by simp [cap]) (.inr (.inl (by simp)))
    simpa using this
  · have e2 : (s.data.toList.flatMap (fun b => [BV b]) ++ List.replicate (cap - s.size) (Value.int .u8 0)).toArray = c := by
      rw [flatMap_one]
      apply Array.ext'
      simp [c]
    rw [e2]
    exact H2

theorem Ev.strEq {s s' : ByteArray} {t t' : TypeId} (hx : e.val x = some (.string s)) (hy : e.val y = some (.string s')) : Ev P w e (.binOp .eql t x y t') ty (.bool (s.toList == s'.toList)) := .of fun ρ hρ _ _ _ _ => by
  simp [execOp, hρ _ _ hx, hρ _ _ hy, eqGuard, binOp, Op.stringOp]
theorem Ev.strNe {s s' : ByteArray} {t t' : TypeId} (hx : e.val x = some (.string s)) (hy : e.val y = some (.string s')) : Ev P w e (.binOp .neq t x y t') ty (.bool (!(s.toList == s'.toList))) := .of fun ρ hρ _ _ _ _ => by
  simp [execOp, hρ _ _ hx, hρ _ _ hy, eqGuard, binOp, Op.stringOp]
theorem Ev.strAdd {s s' : ByteArray} {t t' : TypeId} (hx : e.val x = some (.string s)) (hy : e.val y = some (.string s')) (h : s.size + s'.size ≤ 9223372036854775807) : Ev P w e (.binOp .add t x y t') ty (.string (s ++ s')) := .of fun ρ hρ _ _ _ _ => by
  have e63 : (s.size : Int) + s'.size ≤ 9223372036854775807 := by omega
  simp [execOp, hρ _ _ hx, hρ _ _ hy, eqGuard, binOp, Op.stringOp, e63]

/-! ### Structs and arrays that are values -/

def Env.partsI (e : Env) : List (Nat × Operand) → Option (List (Nat × Value))
  | [] => some []
  | (i, x) :: r => match e.val x with
    | none => none
    | some v => match Env.partsI e r with
      | none => none
      | some vs => some ((i, v) :: vs)

theorem Env.partsI_map {ρ : Operand → Value} (hρ : Knows ρ e) : ∀ {l : List (Nat × Operand)} {vs : List (Nat × Value)}, e.partsI l = some vs → (l.map fun (i, x) => (i, ρ x)) = vs
  | [], vs, h => by simp [Env.partsI] at h; simp [h]
  | (i, x) :: r, vs, h => by
    unfold Env.partsI at h
    cases hx : e.val x with
    | none => rw [hx] at h; cases h
    | some v =>
      rw [hx] at h
      cases hr : e.partsI r with
      | none => rw [hr] at h; cases h
      | some vs' =>
        rw [hr] at h
        cases h
        simp [hρ _ _ hx, Env.partsI_map hρ hr]

/-- Parts laid into cells, each at its place. -/
def fillP (pl : Nat → Option (Nat × Nat)) (cells : Array Value) : List (Nat × Value) → Option (Array Value)
  | [] => some cells
  | (i, v) :: rest => match pl i with
    | none => none
    | some (off, size) => if v.cells.size = size ∧ off + size ≤ cells.size then fillP pl (putAt cells off v.cells.toList) rest else none

theorem foldl_putAt (vs : List Value) : ∀ (cs : Array Value) (off k : Nat), (vs.zipIdx k).foldl (fun cs p => cs.setIfInBounds (off + p.2) p.1) cs = putAt cs (off + k) vs := by
  induction vs with
  | nil => intro cs off k; rfl
  | cons v r ih => intro cs off k; simp only [List.zipIdx_cons, List.foldl_cons, ih, putAt, Nat.add_assoc]

theorem fill_of_fillP (pl : Nat → Option (Nat × Nat)) : ∀ (ps : List (Nat × Value)) (cells cs : Array Value), fillP pl cells ps = some cs → Instr.fill pl cells ps = some cs
  | [], cells, cs, h => h
  | (i, v) :: rest, cells, cs, h => by
    unfold fillP at h
    unfold Instr.fill
    cases hp : pl i with
    | none => rw [hp] at h; cases h
    | some os =>
      obtain ⟨off, size⟩ := os
      rw [hp] at h
      simp only at h ⊢
      by_cases hc : v.cells.size = size ∧ off + size ≤ cells.size
      · rw [if_pos hc] at h
        have hn : ¬ (off + v.cells.size > cells.size) := by rw [hc.1]; omega
        have hfold := foldl_putAt v.cells.toList cells off 0
        simp only [Nat.add_zero] at hfold
        have e1 : v.cells.zipIdx.foldl (fun cs p => cs.setIfInBounds (off + p.2) p.1) cells = putAt cells off v.cells.toList := by
          rw [← hfold, ← Array.foldl_toList, Array.toList_zipIdx]
        simp only [hc.1, ne_eq, not_true, decide_false, Bool.false_or, decide_eq_true_eq]
        rw [hc.1] at hn
        rw [if_neg (by simp [hn])]
        have := fill_of_fillP pl rest _ cs h
        rw [← e1] at this
        exact this
      · rw [if_neg hc] at h; cases h

/-- The places of a struct's fields. -/
def structT (P : Program) (t : TypeId) : Option (List (Nat × Nat)) := match P.underlying t with
  | some (.struct fs) => fs.toList.mapM fun f => (P.info? f.type).map fun i => (f.offset, i.size)
  | _ => none

theorem run_places : ∀ (fs : List Field) (pl : List (Nat × Nat)), (fs.mapM fun f => (P.info? f.type).map fun i => (f.offset, i.size)) = some pl →
    (fs.mapM (m := Sem) fun f => do pure (f.offset, ← sizeOf f.type)).run P w = .ok pl w
  | [], pl, h => by simp at h; subst h; simp
  | f :: fs, pl, h => by
    simp only [List.mapM_cons, bind, Option.bind_eq_some_iff, pure, Option.some.injEq] at h
    obtain ⟨a, ha, pl', hpl, rfl⟩ := h
    cases hi : P.info? f.type with
    | none => rw [hi] at ha; cases ha
    | some i =>
      rw [hi] at ha
      simp at ha
      subst ha
      have ih := run_places fs pl' hpl
      have hs : (sizeOf f.type).run P w = .ok i.size w := by simp [sizeOf, typeInfo, hi]
      rw [List.mapM_cons]
      simp only [Sem.run_bind, hs, Result.andThen, Sem.run_pure, ih]

theorem Ev.buildSt {l : List (Nat × Operand)} {ps : List (Nat × Value)} {pl : List (Nat × Nat)} {zv : Value} {cs : Array Value} (hl : e.partsI l = some ps) (ht : structT P t = some pl) (hz : zeroT P t = some zv)
    (hf : fillP (fun i => pl[i]?) zv.cells ps = some cs) : Ev P w e (.build t l.toArray) ty (.agg cs) := .of fun ρ hρ _ _ _ _ => by
  have h1 := Env.partsI_map hρ hl
  unfold structT at ht
  unfold zeroT at hz
  cases hi : P.info? t with
  | none => rw [hi] at hz; cases hz
  | some inf =>
    rw [hi] at hz
    simp only [Option.bind_some] at hz
    split at ht
    · rename_i fs hu
      have hp := run_places (P := P) (w := w) fs.toList pl ht
      have hfill := fill_of_fillP _ _ _ _ hf
      have hm : (fs.mapM (m := Sem) fun f => do pure (f.offset, ← sizeOf f.type)) = (List.toArray <$> (fs.toList.mapM fun f => do pure (f.offset, ← sizeOf f.type))) := by
        rw [Array.mapM_eq_mapM_toList]
      have hm2 : (fs.mapM (m := Sem) fun f => do pure (f.offset, ← sizeOf f.type)).run P w = .ok pl.toArray w := by rw [hm, Sem.run_map, hp]; rfl
      simp only [execOp, List.map_toArray, h1, Instr.build, zeroValue, typeInfo, Sem.run_bind, run_program, Result.andThen, hi, Sem.run_pure, hz, run_underlying hu, hm2]
      simp [hfill]
    · cases ht

/-- An array's literal, its elements of one cell each, all of them written. -/
theorem Ev.buildArr {n : Nat} {l : List (Nat × Operand)} {vs : List Value} {zv : Value} (hl : e.parts 0 l = some vs) (ht : arrT P t = some (n, 1)) (hz : zeroT P t = some zv) (hzn : zv.cells.size = n)
    (h1 : ∀ v ∈ vs, v.oneCell' = true) (hn : vs.length = n) : Ev P w e (.build t l.toArray) ty (.agg vs.toArray) := .of fun ρ hρ _ _ _ _ => by
  have hfill := fill_row (e := e) hρ (cs := zv.cells) hl h1 (by omega)
  rw [putAt_all (by omega)] at hfill
  unfold arrT at ht
  unfold zeroT at hz
  cases hi : P.info? t with
  | none => rw [hi] at hz; cases hz
  | some inf =>
    rw [hi] at hz
    simp only [Option.bind_some] at hz
    split at ht
    · rename_i n' el hu
      cases hi2 : P.info? el with
      | none => rw [hi2] at ht; cases ht
      | some inf2 =>
        rw [hi2] at ht
        simp at ht
        obtain ⟨rfl, hs⟩ := ht
        simp only [execOp, List.map_toArray, Instr.build, zeroValue, typeInfo, Sem.run_bind, run_program, Result.andThen, hi, Sem.run_pure, hz, run_underlying hu, sizeOf, hi2, hs]
        rw [hfill]
        rfl
    · cases ht

/-- An array's zero value. -/
theorem Ev.buildZero {n sz : Nat} {zv : Value} (ht : arrT P t = some (n, sz)) (hz : zeroT P t = some zv) : Ev P w e (.build t #[]) ty (.agg zv.cells) := .of fun ρ hρ _ _ _ _ => by
  unfold arrT at ht
  unfold zeroT at hz
  cases hi : P.info? t with
  | none => rw [hi] at hz; cases hz
  | some inf =>
    rw [hi] at hz
    simp only [Option.bind_some] at hz
    split at ht
    · rename_i n' el hu
      cases hi2 : P.info? el with
      | none => rw [hi2] at ht; cases ht
      | some inf2 => simp [execOp, Instr.build, zeroValue, typeInfo, hi, hz, run_underlying hu, sizeOf, hi2, Instr.fill]
    · cases ht

/-! ### Words for slices of one's own -/

theorem Rd.right {A : List (Nat × Obj)} {a : Addr} {v : Value} (h : Rd L a v) : Rd (A ++ L) a v := h.sub fun _ hp => List.mem_append_right _ hp

theorem Rd.left {A : List (Nat × Obj)} {a : Addr} {v : Value} (h : Rd L a v) : Rd (L ++ A) a v := h.sub fun _ hp => List.mem_append_left _ hp

theorem SL.mid [Strm] {A : List (Nat × Obj)} {x : Nat × Obj} (h : SL w (x :: (A ++ L))) : SL w (A ++ x :: L) := h.perm List.perm_middle

theorem SL.unmid [Strm] {A : List (Nat × Obj)} {x : Nat × Obj} (h : SL w (A ++ x :: L)) : SL w (x :: (A ++ L)) := h.perm List.perm_middle.symm

theorem SL.dropMid [Strm] {A : List (Nat × Obj)} {x : Nat × Obj} (h : SL w (A ++ x :: L)) : SL w (A ++ L) := h.unmid.drop

theorem SL.sublist [Strm] {w : World} {L L' : List (Nat × Obj)} (h : SL w L) (hs : L'.Sublist L) : SL w L' := ⟨fun p hp => h.1 p (hs.subset hp), h.2.1.sublist (hs.map _), h.2.2⟩

/-- A slice over (a part of) a known row, as what is appended. -/
theorem Src.row [Strm] {b m c sz : Nat} {vs sp : List Value} {T : TypeId} {fr : Nat × Nat} (H : SL w L) (hm : (b, Obj.cells (vs ++ sp).toArray T fr) ∈ L) (hl : vs.length = m * sz) : Src w sz (.slice (some ⟨b, 0, none⟩) m c) m vs :=
  .slice _ _ _ _ hl fun i v hi => by
    rw [add_none, Nat.zero_add]
    refine Rd.cell H (Rd.mk hm ?_)
    have hlt : i < vs.length := by
      rcases Nat.lt_or_ge i vs.length with h | h
      · exact h
      · rw [List.getElem?_eq_none h] at hi; cases hi
    rw [List.getElem?_toArray, List.getElem?_append_left hlt, hi]

theorem Src.row0 [Strm] {b m c sz : Nat} {vs : List Value} {T : TypeId} {fr : Nat × Nat} (H : SL w L) (hm : (b, Obj.cells vs.toArray T fr) ∈ L) (hl : vs.length = m * sz) : Src w sz (.slice (some ⟨b, 0, none⟩) m c) m vs :=
  Src.row (sp := []) H (by simpa using hm) hl

/-- A slice of one's own, as what is appended. -/
theorem Src.own [Strm] {α : Type} {g : α → List Value} {sz : Nat} {T : TypeId} {xs : List α} (hg : ∀ x, (g x).length = sz) (hs : Slc g sz T u xs B) (H : SL w L) (hB : ∀ p ∈ B, p ∈ L) : Src w sz u xs.length (xs.flatMap g) := by
  cases hs with
  | nil => exact .nil _
  | blk b xs' cap spare fr h1 h2 h3 => exact Src.row H (hB _ (.head _)) (flatMap_length hg xs)

theorem Slc.shape {α : Type} {g : α → List Value} {sz : Nat} {T : TypeId} {xs : List α} (hs : Slc g sz T v xs B) (h0 : 0 < xs.length) :
    ∃ b cap spare fr, v = .slice (some ⟨b, 0, none⟩) xs.length cap ∧ B = [(b, .cells (xs.flatMap g ++ spare).toArray T fr)] ∧ spare.length + xs.length * sz = cap * sz ∧ xs.length ≤ cap ∧ Thaw fr 0 (cap * sz) := by
  cases hs with
  | nil => simp at h0
  | blk b xs' cap spare fr h1 h2 h3 => exact ⟨b, cap, spare, fr, rfl, rfl, h1, h2, h3⟩

/-- The length of a slice of one's own. -/
theorem Slc.len {α : Type} {g : α → List Value} {sz : Nat} {T : TypeId} {xs : List α} (hs : Slc g sz T v xs B) : ∃ a c, v = .slice a xs.length c := by
  cases hs with
  | nil => exact ⟨_, _, rfl⟩
  | blk b xs' cap spare fr h1 h2 h3 => exact ⟨_, _, rfl⟩

end
end Go.Proofs.YtniihnncgblocaaDoor.V
