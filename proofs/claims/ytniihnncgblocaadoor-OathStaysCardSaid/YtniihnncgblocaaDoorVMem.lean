/-
  The engine: operations that read and write memory.
-/
import Derived.Test.YtniihnncgblocaaDoorVOps
namespace Go.Proofs.YtniihnncgblocaaDoor.V

/-! ## What the tables say of a type (closed facts, by the kernel) -/

/-- A type of one cell that is no struct and no array. -/
def plainT (P : Program) (t : TypeId) : Bool := match P.underlying t with
  | some (.struct _) | some (.array _ _) | none => false
  | some _ => true
/-- A struct's or array's number of cells. -/
def aggT (P : Program) (t : TypeId) : Option Nat := match P.underlying t with
  | some (.struct _) | some (.array _ _) => (P.info? t).map (·.size)
  | _ => none
def sizeT (P : Program) (t : TypeId) : Option Nat := (P.info? t).map (·.size)
def bytesT (P : Program) (t : TypeId) : Option Nat := (P.info? t).map (·.bytes)
def zeroT (P : Program) (t : TypeId) : Option Value := (P.info? t).bind (·.zero)
/-- Where a field lies (its type has cells). -/
def fieldT (P : Program) (s i : Nat) : Option Nat := match P.underlying s with
  | some (.struct fs) => match fs[i]? with
    | some f => match P.info? f.type with
      | some inf => if inf.size = 0 then none else some f.offset
      | none => none
    | none => none
  | _ => none
/-- An array's length and the cells of an element. -/
def arrT (P : Program) (t : TypeId) : Option (Nat × Nat) := match P.underlying t with
  | some (.array n e) => (P.info? e).map fun i => (n, i.size)
  | _ => none
/-- A slice's element: its type, its cells. -/
def slT (P : Program) (t : TypeId) : Option (TypeId × Nat) := match P.underlying t with
  | some (.slice e) => (P.info? e).map fun i => (e, i.size)
  | _ => none

theorem add_none (b off n : Nat) : Addr.add ⟨b, off, none⟩ n = ⟨b, off + n, none⟩ := by
  unfold Addr.add
  split
  · rename_i h; subst h; rfl
  · rfl

section
variable {P : Program} {w : World} {e : Env} {ty t : TypeId} {x y z : Operand} {v u : Value} {L L' : List (Nat × Obj)}

theorem run_sizeOf_of {n : Nat} (h : sizeT P t = some n) (w : World) : (sizeOf t).run P w = .ok n w := by
  unfold sizeT at h
  cases hi : P.info? t with
  | none => rw [hi] at h; cases h
  | some i => rw [hi] at h; simp at h; subst h; simp [sizeOf, typeInfo, hi]

theorem run_isAgg_plain (h : plainT P t = true) (w : World) : (isAgg t).run P w = .ok false w := by
  unfold plainT at h
  cases hu : P.underlying t with
  | none => rw [hu] at h; cases h
  | some d =>
    rw [hu] at h
    simp only [isAgg, Sem.run_bind, run_underlying hu, Result.andThen]
    cases d <;> first | rfl | (simp at h)

theorem run_isAgg_agg {n : Nat} (h : aggT P t = some n) (w : World) : (isAgg t).run P w = .ok true w := by
  unfold aggT at h
  cases hu : P.underlying t with
  | none => rw [hu] at h; cases h
  | some d =>
    rw [hu] at h
    simp only [isAgg, Sem.run_bind, run_underlying hu, Result.andThen]
    cases d <;> first | rfl | (simp at h)

theorem sizeT_of_aggT {n : Nat} (h : aggT P t = some n) : sizeT P t = some n := by
  unfold aggT at h
  unfold sizeT
  split at h <;> first | exact h | cases h

theorem run_loadVar_plain (ht : plainT P t = true) {a : Addr} (hc : w.cell? a = some v) : (loadVar t a).run P w = .ok v w := by
  simp only [loadVar, Sem.run_bind, run_isAgg_plain ht, Result.andThen]
  simp [hc]

theorem run_loadVar_agg {vs : List Value} (ht : aggT P t = some vs.length) {a : Addr} (hc : ∀ i v, vs[i]? = some v → w.cell? (a.add i) = some v) :
    (loadVar t a).run P w = .ok (.agg vs.toArray) w := by
  simp only [loadVar, Sem.run_bind, run_isAgg_agg ht, Result.andThen, if_true, run_sizeOf_of (sizeT_of_aggT ht)]
  rw [run_loadCells_list w a vs hc]
  rfl

theorem Ev.load [Strm] {a : Addr} (H : SL w L) (hx : e.val x = some (.pointer (some a))) (ht : plainT P t = true) (hr : Rd L a v) : Ev P w e (.load t x) ty v := .of fun ρ hρ _ _ _ _ => by
  have := run_loadVar_plain ht (Rd.cell H hr)
  simp [execOp, hρ _ _ hx, Instr.loadAt, Instr.sureAddr, this]

theorem Ev.loadAgg [Strm] {a : Addr} {vs : List Value} (H : SL w L) (hx : e.val x = some (.pointer (some a))) (ht : aggT P t = some vs.length) (hr : ∀ i v, vs[i]? = some v → Rd L (a.add i) v) :
    Ev P w e (.load t x) ty (.agg vs.toArray) := .of fun ρ hρ _ _ _ _ => by
  have := run_loadVar_agg ht (fun i v h => Rd.cell H (hr i v h))
  simp [execOp, hρ _ _ hx, Instr.loadAt, Instr.sureAddr, this]

/-- A whole block, loaded. -/
theorem Ev.loadBlk [Strm] {b n : Nat} {vs : List Value} {T : TypeId} {fr : Nat × Nat} (H : SL w L) (hx : e.val x = some (.pointer (some ⟨b, 0, none⟩))) (ht : aggT P t = some n)
    (hn : vs.length = n) (hm : (b, Obj.cells vs.toArray T fr) ∈ L) : Ev P w e (.load t x) ty (.agg vs.toArray) :=
  Ev.loadAgg H hx (by rw [ht, hn]) fun i v h => by rw [add_none, Nat.zero_add]; exact Rd.mk hm (by simpa using h)

/-- A part of a block, loaded. -/
theorem Ev.loadPart [Strm] {b off n : Nat} {vs cs : List Value} {T : TypeId} {fr : Nat × Nat} (H : SL w L) (hx : e.val x = some (.pointer (some ⟨b, off, none⟩))) (ht : aggT P t = some n) (hn : vs.length = n)
    (hm : (b, Obj.cells cs.toArray T fr) ∈ L) (hp : ∀ i v, vs[i]? = some v → cs[off + i]? = some v) : Ev P w e (.load t x) ty (.agg vs.toArray) :=
  Ev.loadAgg H hx (by rw [ht, hn]) fun i v h => by rw [add_none]; exact Rd.mk hm (by simpa using hp i v h)

theorem Ev.fieldAddr {s i o b off o' : Nat} (hx : e.val x = some (.pointer (some ⟨b, off, none⟩))) (hf : fieldT P s i = some o) (ho : off + o = o' := by first | rw [Nat.zero_add] | rfl) :
    Ev P w e (.fieldAddr s x i) ty (.pointer (some ⟨b, o', none⟩)) := .of fun ρ hρ _ _ _ _ => by
  subst ho
  rw [← add_none]
  unfold fieldT at hf
  cases hu : P.underlying s with
  | none => rw [hu] at hf; cases hf
  | some d =>
    rw [hu] at hf
    cases d <;> first | (cases hf; done) | skip
    rename_i fs
    simp only at hf
    cases hi : fs[i]? with
    | none => rw [hi] at hf; cases hf
    | some f =>
      rw [hi] at hf
      simp only at hf
      cases hn : P.info? f.type with
      | none => rw [hn] at hf; cases hf
      | some inf =>
        rw [hn] at hf
        simp only at hf
        split at hf
        · cases hf
        · rename_i hz
          cases hf
          have h1 := run_underlying (w := w) hu
          simp [execOp, hρ _ _ hx, Instr.fieldAt, h1, hi, Instr.sureAddr, fieldPlace, sizeOf, typeInfo, hn, hz]

section
variable {k : IntKind} {i : Int} {n m sz : Nat} {b off : Nat}

theorem Ev.iaArr {o : Nat} (hx : e.val x = some (.pointer (some ⟨b, off, none⟩))) (hy : e.val y = some (.int k i)) (hi : i = (m : Nat)) (ht : arrT P t = some (n, sz)) (hlt : m < n)
    (ho : off + m * sz = o := by first | rw [Nat.mul_one, Nat.zero_add] | rw [Nat.mul_one] | rfl) :
    Ev P w e (.indexAddr t x y) ty (.pointer (some ⟨b, o, none⟩)) := .of fun ρ hρ _ _ _ _ => by
  subst ho
  rw [← add_none]
  subst hi
  unfold arrT at ht
  cases hu : P.underlying t with
  | none => rw [hu] at ht; cases ht
  | some d =>
    rw [hu] at ht
    cases d <;> first | (cases ht; done) | skip
    rename_i l el
    simp only at ht
    cases hn : P.info? el with
    | none => rw [hn] at ht; cases ht
    | some inf =>
      rw [hn] at ht
      simp at ht
      obtain ⟨rfl, rfl⟩ := ht
      have h1 := run_underlying (w := w) hu
      simp [execOp, hρ _ _ hx, hρ _ _ hy, Instr.indexAt, asIntOf, h1, Instr.sureAddr, sizeOf, typeInfo, hn, hlt]

theorem Ev.iaSl {len cap o : Nat} (hx : e.val x = some (.slice (some ⟨b, off, none⟩) len cap)) (hy : e.val y = some (.int k i)) (hi : i = (m : Nat)) (ht : slT P t = some (n, sz)) (hlt : m < len)
    (ho : off + m * sz = o := by first | rw [Nat.mul_one, Nat.zero_add] | rw [Nat.mul_one] | rfl) :
    Ev P w e (.indexAddr t x y) ty (.pointer (some ⟨b, o, none⟩)) := .of fun ρ hρ _ _ _ _ => by
  subst ho
  rw [← add_none]
  subst hi
  unfold slT at ht
  cases hu : P.underlying t with
  | none => rw [hu] at ht; cases ht
  | some d =>
    rw [hu] at ht
    cases d <;> first | (cases ht; done) | skip
    rename_i el
    simp only at ht
    cases hn : P.info? el with
    | none => rw [hn] at ht; cases ht
    | some inf =>
      rw [hn] at ht
      simp at ht
      obtain ⟨rfl, rfl⟩ := ht
      have h1 := run_underlying (w := w) hu
      simp [execOp, hρ _ _ hx, hρ _ _ hy, Instr.indexAt, asIntOf, h1, Instr.sureAddr, sizeOf, typeInfo, hn, hlt]

/-- An element of an array that is a value, each of one cell. -/
theorem Ev.ixArr {cs : Array Value} (hx : e.val x = some (.agg cs)) (hy : e.val y = some (.int k i)) (hi : i = (m : Nat)) (hu : P.underlying t = some (.array n sz)) (hp : plainT P sz = true)
    (hs : sizeT P sz = some 1) (hlt : m < n) (hv : cs[m]? = some v) : Ev P w e (.index t x y) ty v := .of fun ρ hρ _ _ _ _ => by
  subst hi
  have h1 := run_underlying (w := w) hu
  have h2 := run_sizeOf_of hs w
  have h3 := run_isAgg_plain hp w
  simp [execOp, hρ _ _ hx, hρ _ _ hy, Instr.index, asIntOf, h1, h2, hlt, part, h3, hv]

/-- A byte of a string. -/
theorem Ev.ixStr {s : ByteArray} {c : UInt8} (hx : e.val x = some (.string s)) (hy : e.val y = some (.int k i)) (hi : i = (m : Nat)) (hu : P.underlying t = some .string) (hv : s.data[m]? = some c) :
    Ev P w e (.index t x y) ty (.int .u8 c.toNat) := .of fun ρ hρ _ _ _ _ => by
  subst hi
  have h1 := run_underlying (w := w) hu
  have hlt : m < s.size := by
    rcases Nat.lt_or_ge m s.size with h | h
    · exact h
    · rw [Array.getElem?_eq_none (by simpa using h)] at hv; cases hv
  have h2 : s[m]? = some c := by
    rw [getElem?_pos s m hlt]
    rw [Array.getElem?_eq_getElem (by simpa using hlt)] at hv
    exact hv
  simp [execOp, hρ _ _ hx, hρ _ _ hy, Instr.index, asIntOf, h1, h2]
end

theorem Ev.lenSl {a : Option Addr} {n c : Nat} {ats : Array TypeId} {d : TypeId} (hx : e.val x = some (.slice a n c)) (ha : ats[0]? = some t) (hu : P.underlying t = some (.slice d)) :
    Ev P w e (.call ⟨.builtin .len, #[x], ats⟩) ty (.int .i64 n) := .of fun ρ hρ _ _ _ _ => by
  have h1 := run_underlying (w := w) hu
  simp [execOp, resolve, invoke, builtin, hρ _ _ hx, Builtin.len_, ha, h1, goInt]

theorem Ev.lenStr {s : ByteArray} {ats : Array TypeId} (hx : e.val x = some (.string s)) (ha : ats[0]? = some t) (hu : P.underlying t = some .string) :
    Ev P w e (.call ⟨.builtin .len, #[x], ats⟩) ty (.int .i64 s.size) := .of fun ρ hρ _ _ _ _ => by
  have h1 := run_underlying (w := w) hu
  simp [execOp, resolve, invoke, builtin, hρ _ _ hx, Builtin.len_, ha, h1, goInt]

theorem Ev.min {k k' : IntKind} {a b : Int} {ats : Array TypeId} (hx : e.val x = some (.int k a)) (hy : e.val y = some (.int k' b)) :
    Ev P w e (.call ⟨.builtin .min, #[x, y], ats⟩) ty (.int k (if b < a then b else a)) := .of fun ρ hρ _ _ _ _ => by
  simp [execOp, resolve, invoke, builtin, hρ _ _ hx, hρ _ _ hy, Builtin.min_, Builtin.min2]

theorem Ev.extract {vs : Array Value} {i : Nat} (hx : e.val x = some (.tuple vs)) (hv : vs[i]? = some v) : Ev P w e (.extract x i) ty v := .of fun ρ hρ _ _ _ _ => by
  simp [execOp, hρ _ _ hx, Instr.extract, hv]

theorem Ev.makeInterface {d : TypeDesc} (hx : e.val x = some v) (hu : P.underlying t = some d) (hd : (match d with | .interface _ => false | _ => true) = true) : Ev P w e (.makeInterface t x) ty (.iface t v) := .of fun ρ hρ _ _ _ _ => by
  have h1 := run_underlying (w := w) hu
  simp only [execOp, hρ _ _ hx, Instr.makeInterface, Sem.run_bind, h1, Result.andThen]
  cases d <;> first | rfl | simp at hd

/-! ### A slice of a slice, of a string, of an array -/

/-- Where a slice 'x[l:h]' of a slice begins. -/
def cutAddr (a : Option Addr) (l cap sz : Nat) : Option Addr := if cap = l then a else a.map (·.add (l * sz))

theorem Ev.slSl {a : Option Addr} {len cap : Nat} {el sz l h : Nat} {lo hi : Option Operand} (hx : e.val x = some (.slice a len cap)) (ht : slT P t = some (el, sz))
    (hlo : match lo with | none => l = 0 | some o => ∃ k, e.val o = some (.int k (l : Nat))) (hhi : match hi with | none => h = len | some o => ∃ k, e.val o = some (.int k (h : Nat)))
    (h1 : l ≤ h) (h2 : h ≤ cap) (_ : len ≤ cap := by omega) : Ev P w e (.slice t x lo hi none) ty (.slice (cutAddr a l cap sz) (h - l) (cap - l)) := .of fun ρ hρ _ _ _ _ => by
  unfold slT at ht
  cases hu : P.underlying t with
  | none => rw [hu] at ht; cases ht
  | some d =>
    rw [hu] at ht
    cases d <;> first | (cases ht; done) | skip
    rename_i el'
    simp only at ht
    cases hn : P.info? el' with
    | none => rw [hn] at ht; cases ht
    | some inf =>
      rw [hn] at ht
      simp at ht
      obtain ⟨rfl, rfl⟩ := ht
      have hu1 := run_underlying (w := w) hu
      have hb : (Instr.sliceBounds true len cap (lo.map ρ) (hi.map ρ) none).run P w = .ok (l, h, cap) w := by
        cases lo with
        | none =>
          simp only at hlo
          subst hlo
          cases hi with
          | none => simp only at hhi; subst hhi; simp [Instr.sliceBounds]
          | some o => obtain ⟨k, hk⟩ := hhi; simp [Instr.sliceBounds, Instr.sliceBound, hρ _ _ hk, asIntOf, h2]
        | some o =>
          obtain ⟨k, hk⟩ := hlo
          cases hi with
          | none => simp only at hhi; subst hhi; simp [Instr.sliceBounds, Instr.sliceBound, hρ _ _ hk, asIntOf, h1]
          | some o' => obtain ⟨k', hk'⟩ := hhi; simp [Instr.sliceBounds, Instr.sliceBound, hρ _ _ hk, hρ _ _ hk', asIntOf, h1, h2]
      simp only [execOp, hρ _ _ hx, Instr.sliceAt, Instr.slice, Sem.run_bind, hu1, Result.andThen, Option.map_none, hb, sizeOf, typeInfo, run_program, hn, Sem.run_pure, cutAddr]

theorem Ev.slStr {s : ByteArray} {l h : Nat} {lo hi : Option Operand} (hx : e.val x = some (.string s)) (hu : P.underlying t = some .string)
    (hlo : match lo with | none => l = 0 | some o => ∃ k, e.val o = some (.int k (l : Nat))) (hhi : match hi with | none => h = s.size | some o => ∃ k, e.val o = some (.int k (h : Nat)))
    (h1 : l ≤ h) (h2 : h ≤ s.size) : Ev P w e (.slice t x lo hi none) ty (.string (s.extract l h)) := .of fun ρ hρ _ _ _ _ => by
  have hu1 := run_underlying (w := w) hu
  have hb : (Instr.sliceBounds false s.size s.size (lo.map ρ) (hi.map ρ) none).run P w = .ok (l, h, s.size) w := by
    cases lo with
    | none =>
      simp only at hlo
      subst hlo
      cases hi with
      | none => simp only at hhi; subst hhi; simp [Instr.sliceBounds]
      | some o => obtain ⟨k, hk⟩ := hhi; simp [Instr.sliceBounds, Instr.sliceBound, hρ _ _ hk, asIntOf, h2]
    | some o =>
      obtain ⟨k, hk⟩ := hlo
      cases hi with
      | none => simp only at hhi; subst hhi; simp [Instr.sliceBounds, Instr.sliceBound, hρ _ _ hk, asIntOf, h1]
      | some o' => obtain ⟨k', hk'⟩ := hhi; simp [Instr.sliceBounds, Instr.sliceBound, hρ _ _ hk, hρ _ _ hk', asIntOf, h1, h2]
  simp only [execOp, hρ _ _ hx, Instr.sliceAt, Instr.slice, Sem.run_bind, hu1, Result.andThen, Option.map_none, hb, Option.isSome_none, Bool.false_eq_true, if_false, Sem.run_pure]

/-- 'arr[l:h]', arr an array in memory. -/
theorem Ev.slArr {b off n sz l h o : Nat} {lo hi : Option Operand} (hx : e.val x = some (.pointer (some ⟨b, off, none⟩))) (ht : arrT P t = some (n, sz))
    (hlo : match lo with | none => l = 0 | some o => ∃ k, e.val o = some (.int k (l : Nat))) (hhi : match hi with | none => h = n | some o => ∃ k, e.val o = some (.int k (h : Nat)))
    (h1 : l ≤ h) (h2 : h ≤ n) (h3 : l < n) (ho : off + l * sz = o := by first | rw [Nat.mul_one, Nat.zero_add] | rfl) : Ev P w e (.slice t x lo hi none) ty (.slice (some ⟨b, o, none⟩) (h - l) (n - l)) := .of fun ρ hρ _ _ _ _ => by
  subst ho
  unfold arrT at ht
  cases hu : P.underlying t with
  | none => rw [hu] at ht; cases ht
  | some d =>
    rw [hu] at ht
    cases d <;> first | (cases ht; done) | skip
    rename_i n' el
    simp only at ht
    cases hi : P.info? el with
    | none => rw [hi] at ht; cases ht
    | some inf =>
      rw [hi] at ht
      simp at ht
      obtain ⟨rfl, rfl⟩ := ht
      have hu1 := run_underlying (w := w) hu
      have hb : (Instr.sliceBounds false n' n' (lo.map ρ) (‹Option Operand›.map ρ) none).run P w = .ok (l, h, n') w := by
        cases lo with
        | none =>
          simp only at hlo
          subst hlo
          split at hhi
          · subst hhi; simp [Instr.sliceBounds]
          · obtain ⟨k, hk⟩ := hhi; simp [Instr.sliceBounds, Instr.sliceBound, hρ _ _ hk, asIntOf, h2]
        | some o =>
          obtain ⟨k, hk⟩ := hlo
          split at hhi
          · subst hhi; simp [Instr.sliceBounds, Instr.sliceBound, hρ _ _ hk, asIntOf, h1]
          · obtain ⟨k', hk'⟩ := hhi; simp [Instr.sliceBounds, Instr.sliceBound, hρ _ _ hk, hρ _ _ hk', asIntOf, h1, h2]
      have hne : n' ≠ l := by omega
      simp only [execOp, hρ _ _ hx, Instr.sliceAt, Sem.run_bind, hu1, Result.andThen, Instr.sureAddr, Sem.run_pure, Option.map_none, hb, sizeOf, typeInfo, run_program, hi, hne, if_false, add_none]

end
/-- A result that is a whole block. -/
theorem RunsE.retBlk [Strm] {P : Program} {f : FuncId} {Post : Value → World → Prop} {k : List Item} {w : World} {n : Nat} {e : Env} {fn : Func} {t b m : Nat} {ty T : TypeId} {fr : Nat × Nat} {vs : List Value} {L : List (Nat × Obj)}
    (H : SL w L) (hf : P.funcs[f]? = some fn) (hr : fn.results = #[.cell t ty]) (ht : e.get t = some (.pointer (some ⟨b, 0, none⟩)))
    (ha : aggT P ty = some m) (hn : vs.length = m) (hm : (b, Obj.cells vs.toArray T fr) ∈ L) (h : Post (.agg vs.toArray) w) :
    RunsE P ⟨f, none, []⟩ (fun e w' => ∃ v, e = .returned v ∧ Post v w') n (.code .ret :: k) e w :=
  .retCell hf hr ht (run_loadVar_agg (by rw [ha, hn]) fun i v hv => Rd.cell H (by rw [add_none, Nat.zero_add]; exact Rd.mk hm (by simpa using hv))) h

end Go.Proofs.YtniihnncgblocaaDoor.V
