/-
  The engine: function values; literals of elements of several cells, and of none; clear; a slice against nil.
-/
import Derived.Test.YtniihnncgblocaaDoorVInp
namespace Go.Proofs.YtniihnncgblocaaDoor.V

theorem Upd.skip {b : Nat} {o o' : Obj} {l l' : List (Nat × Obj)} (h : Upd b o o' l l') : ∀ B : List (Nat × Obj), Upd b o o' (B ++ l) (B ++ l')
  | [] => h
  | _ :: B => (h.skip B).tail

theorem Inp.none_eq {L : List (Nat × Obj)} {n c : Nat} {bs : List UInt8} (h : Inp L (.slice none n c) bs) : bs = [] := by
  generalize hv : Value.slice none n c = v at h
  cases h with
  | nil => rfl
  | empty a c => cases hv
  | blk b off c bs hc hr => cases hv

section
variable {P : Program} {w : World} {e : Env} {ty t t2 : TypeId} {x y z : Operand} {v u : Value} {L L' B : List (Nat × Obj)}

theorem Ev.makeFunc {fn : Fn} {l1 l2 : List Operand} {vs us : List Value} (h1 : e.vals l1 = some vs) (h2 : e.vals l2 = some us) : Ev P w e (.makeFunc fn l1.toArray l2.toArray) ty (.func fn vs.toArray us.toArray) := .of fun ρ hρ _ _ _ _ => by
  have a1 := Env.vals_map hρ h1
  have a2 := Env.vals_map hρ h2
  simp [execOp, Instr.makeFunc, a1, a2]

theorem Ex.buildSlP [Strm] {len sz : Nat} {l : List (Nat × Operand)} {ps : List (Nat × Value)} {cs : List Value} {T : TypeId} {zv : Value} (H : SL w L) (hl : e.partsI l = some ps) (ht : slT P t = some (T, sz)) (hz : zeroT P T = some zv)
    (hf : fillP (fun i => some (i * sz, sz)) ((List.range (len * sz)).map (zv.cells[· % zv.cells.size]!)).toArray ps = some cs.toArray) (h0 : 0 < len * sz) (hlen : len * sz ≤ 16777216) :
    Ex P w e (.buildSlice t len l.toArray) ty fun v w' => ∃ b, v = .slice (some ⟨b, 0, none⟩) len len ∧ SL w' ((b, .cells cs.toArray T (0, 0)) :: L) := .of fun ρ hρ _ _ _ _ => by
  obtain ⟨hu, inf, hi, hs⟩ := slT_spec ht
  have h1 := Env.partsI_map hρ hl
  simp only [zeroT, hi, Option.bind_some] at hz
  subst hs
  have h24 : ¬ (len * inf.size > 2 ^ 24) := by omega
  have hne : ¬ (len * inf.size = 0) := by omega
  have hfill := fill_of_fillP _ _ _ _ hf
  have he : ((List.range (len * inf.size)).map (zv.cells[· % zv.cells.size]!)).toArray = (Array.range (len * inf.size)).map (zv.cells[· % zv.cells.size]!) := by
    apply Array.ext'
    simp
  rw [he] at hfill
  simp only [execOp, Instr.buildSlice, Sem.run_bind, run_underlying hu, Result.andThen, sizeOf, typeInfo, run_program, hi, Sem.run_pure, h24, hne, if_false, zeroValue, hz]
  simp only [List.map_toArray, h1] at *
  rw [hfill]
  simp only [newRow, Sem.run_bind, run_newObj, Result.andThen, Sem.run_pure]
  exact ⟨w.heap.size, rfl, H.alloc _⟩

theorem Ex.buildSl0 [Strm] {sz : Nat} {T : TypeId} (H : SL w L) (ht : slT P t = some (T, sz)) :
    Ex P w e (.buildSlice t 0 #[]) ty fun v w' => ∃ b, v = .slice (some ⟨b, 0, none⟩) 0 0 ∧ SL w' ((b, .cells #[] T (0, 0)) :: L) := .of fun ρ hρ _ _ _ _ => by
  obtain ⟨hu, inf, hi, hs⟩ := slT_spec ht
  simp [execOp, Instr.buildSlice, run_underlying hu, sizeOf, typeInfo, hi, Instr.fill, newRow]
  have h := H.alloc (.cells #[] T (0, 0))
  have e0 : Array.map (fun _ => (default : Value)) (Array.range 0) = #[] := by
    apply Array.ext'
    simp
  refine ⟨w.heap.size, rfl, ?_⟩
  rw [e0]
  exact h

/-- The row of an empty literal, as a slice of one's own. -/
theorem Slc.lit0 {α : Type} {g : α → List Value} {sz : Nat} {T : TypeId} (b : Nat) : Slc g sz T (.slice (some ⟨b, 0, none⟩) 0 0) [] [(b, .cells #[] T (0, 0))] :=
  .blk b [] 0 [] (0, 0) (by simp) (by simp) (Thaw.zero _ _)

theorem run_equalIn_slNil {t el : TypeId} {a : Option Addr} {n c : Nat} (hu : P.underlying t = some (.slice el)) (d : Nat) : (Op.equalIn (d + 1) t (.slice a n c) (.slice none 0 0)).run P w = .ok a.isNone w := by
  have h1 := run_underlying (w := w) hu
  cases a <;> simp [Op.equalIn, h1]

theorem Ev.slNilEq {t' el : TypeId} {a : Option Addr} {n c : Nat} (hx : e.val x = some (.slice a n c)) (hy : e.val y = some (.slice none 0 0)) (hu : P.underlying t = some (.slice el)) :
    Ev P w e (.binOp .eql t x y t') ty (.bool a.isNone) := .of fun ρ hρ _ _ _ _ => by
  have h := run_equal_of (w := w) fun d => run_equalIn_slNil (a := a) (n := n) (c := c) hu d
  simp [execOp, hρ _ _ hx, hρ _ _ hy, eqGuard, binOp, h]

theorem Ev.slNilNe {t' el : TypeId} {a : Option Addr} {n c : Nat} (hx : e.val x = some (.slice a n c)) (hy : e.val y = some (.slice none 0 0)) (hu : P.underlying t = some (.slice el)) :
    Ev P w e (.binOp .neq t x y t') ty (.bool (!a.isNone)) := .of fun ρ hρ _ _ _ _ => by
  have h := run_equal_of (w := w) fun d => run_equalIn_slNil (a := a) (n := n) (c := c) hu d
  simp [execOp, hρ _ _ hx, hρ _ _ hy, eqGuard, binOp, h]

/-- x[:0] of a slice of one's own; and clear leaves it fit for that. -/
def cut0 (sz : Nat) : Value → Value
  | .slice a _ c => .slice (cutAddr a 0 c sz) (0 - 0) (c - 0)
  | v => v

theorem cutAddr_zero (a : Option Addr) (c sz : Nat) : cutAddr a 0 c sz = a := by
  unfold cutAddr
  split
  · rfl
  · cases a with
    | none => rfl
    | some a => simp [Addr.add]

theorem Ex.clear [Strm] {α : Type} {g : α → List Value} {sz : Nat} {T : TypeId} {zv : Value} {xs : List α} (H : SL w (B ++ L)) (hx : e.val x = some v) (hs : Slc g sz T v xs B) (hg : ∀ x, (g x).length = sz) (ht : slT P t = some (T, sz))
    (hz : zeroT P T = some zv) (hzs : zv.cells.size = sz) (hone : ∀ v ∈ zv.cells.toList, v.oneCell' = true) :
    Ex P w e (.call ⟨.builtin .clear, #[x], #[t]⟩) ty fun v' w' => v' = .tuple #[] ∧ ∃ B', Slc g sz T (cut0 sz v) [] B' ∧ SL w' (B' ++ L) := .of fun ρ hρ _ _ _ _ => by
  obtain ⟨hu, inf, hi, hsz⟩ := slT_spec ht
  have hz' := hz
  simp only [zeroT, hi, Option.bind_some] at hz'
  have fin : ∀ w', (Builtin.clear_ #[t] ty #[v]).run P w = .ok (.tuple #[]) w' → (∃ B', Slc g sz T (cut0 sz v) [] B' ∧ SL w' (B' ++ L)) →
      Lands P (fun v' w' => v' = .tuple #[] ∧ ∃ B', Slc g sz T (cut0 sz v) [] B' ∧ SL w' (B' ++ L)) ((execOp ρ ⟨‹_›, .call ⟨.builtin .clear, #[x], #[t]⟩, ty, ‹_›, ‹_›, ‹_›⟩).run P w) := fun w' hr h => by
    have e1 : (execOp ρ ⟨‹_›, .call ⟨.builtin .clear, #[x], #[t]⟩, ty, ‹_›, ‹_›, ‹_›⟩).run P w = .ok (.value (.tuple #[])) w' := by
      simp [execOp, resolve, invoke, builtin, hρ _ _ hx, hr]
    rw [e1]
    exact ⟨rfl, h⟩
  cases hs with
  | nil =>
    refine fin w (by simp [Builtin.clear_, run_underlying hu]) ⟨[], ?_, H⟩
    simp only [cut0, cutAddr_zero]
    exact .nil
  | blk b xs' cap spare fr hsp hle hfr =>
    have hxs := flatMap_length hg xs
    have hm : (b, Obj.cells (xs.flatMap g ++ spare).toArray T fr) ∈ [(b, Obj.cells (xs.flatMap g ++ spare).toArray T fr)] ++ L := .head _
    by_cases h0 : xs.length = 0
    · have : xs = [] := List.eq_nil_of_length_eq_zero h0
      subst this
      refine fin w (by simp [Builtin.clear_, run_underlying hu]) ⟨_, ?_, H⟩
      simp only [cut0, cutAddr_zero]
      exact .blk b [] cap spare fr hsp hle hfr
    · have hzc : (Builtin.zeroCells zv.cells xs.length).toList.length = xs.length * sz := by rw [zeroCells_len, hzs]
      have hmul : xs.length * sz ≤ cap * sz := Nat.mul_le_mul_right _ hle
      have h1c : ∀ c ∈ (Builtin.zeroCells zv.cells xs.length).toList, c.oneCell' = true := by
        intro c hc
        simp only [Builtin.zeroCells] at hc
        simp at hc
        obtain ⟨i, hi, rfl⟩ := hc
        by_cases hlt : i % zv.cells.size < zv.cells.size
        · exact hone _ (by simp [hlt])
        · have : zv.cells.size = 0 := by
            rcases Nat.eq_zero_or_pos zv.cells.size with h | h
            · exact h
            · exact absurd (Nat.mod_lt _ h) hlt
          rw [this, Nat.mul_zero] at hi
          omega
      obtain ⟨w', hr, h1, h3, hk⟩ := run_storeCells (P := P) (Builtin.zeroCells zv.cells xs.length).toList h1c w 0 0 _ (H.1 _ hm) (by simp only [List.size_toArray, List.length_append, hxs]; omega) (fun j h4 h5 => hfr.not j (by omega) (by omega))
      simp only [Nat.add_zero] at h1
      have hrun : (Builtin.clear_ #[t] ty #[.slice (some ⟨b, 0, none⟩) xs.length cap]).run P w = .ok (.tuple #[]) w' := by
        obtain ⟨k, hk⟩ : ∃ k, xs.length = k + 1 := ⟨xs.length - 1, by omega⟩
        rw [hk] at hr ⊢
        simp [Builtin.clear_, run_underlying hu, zeroValue, typeInfo, hi, hz', hr]
      refine fin w' hrun ⟨[(b, .cells ((Builtin.zeroCells zv.cells xs.length).toList ++ spare).toArray T fr)], ?_, ?_⟩
      · simp only [cut0, cutAddr_zero]
        have := Slc.blk (g := g) (sz := sz) (T := T) b [] cap ((Builtin.zeroCells zv.cells xs.length).toList ++ spare) fr (by rw [List.length_append, hzc]; simp only [List.length_nil]; omega) (by simp) hfr
        simpa using this
      · have e1 : putAt (xs.flatMap g ++ spare).toArray 0 (Builtin.zeroCells zv.cells xs.length).toList = ((Builtin.zeroCells zv.cells xs.length).toList ++ spare).toArray := by
          have := putAt_append (pre := []) (mid := xs.flatMap g) (post := spare) (vs := (Builtin.zeroCells zv.cells xs.length).toList) (off := 0) rfl (by rw [hzc, hxs])
          simpa using this
        rw [e1] at h1
        exact H.upd .head h1 h3 hk

/-- x[:0] of a slice of one's own, after clear. -/
theorem Ev.slSl0 {a : Option Addr} {len cap : Nat} {el sz : Nat} (hx : e.val x = some (.slice a len cap)) (ht : slT P t = some (el, sz)) (hle : len ≤ cap) :
    Ev P w e (.slice t x none (some (.const (.int .i64 0))) none) ty (cut0 sz (.slice a len cap)) :=
  Ev.slSl (l := 0) (h := 0) hx ht rfl ⟨_, rfl⟩ (Nat.le_refl _) (by omega) hle

theorem Slc.leCap {α : Type} {g : α → List Value} {sz : Nat} {T : TypeId} {xs : List α} (hs : Slc g sz T v xs B) : ∃ a c, v = .slice a xs.length c ∧ xs.length ≤ c := by
  cases hs with
  | nil => exact ⟨_, _, rfl, by simp⟩
  | blk b xs' cap spare fr h1 h2 h3 => exact ⟨_, _, rfl, h2⟩

theorem Fits.setSlot {ds : List Deferred} {n d : Nat} {tmps : Array Value} (h : Fits ds n e { tmps := tmps, defers := ds }) (hd : Nat.blt d n = true) (v : Value) : Fits ds n ((d, v) :: e) { tmps := tmps.setIfInBounds d v, defers := ds } :=
  h.put hd v

end
section
variable {P : Program} {w : World} {e : Env} {ty t : TypeId} {x : Operand}

theorem run_equalIn_ifaceNil {ms : Array (String × TypeId)} {T : TypeId} {v : Value} (hu : P.underlying t = some (.interface ms)) (d : Nat) : (Op.equalIn (d + 1) t (.iface T v) .nilIface).run P w = .ok false w := by
  simp [Op.equalIn, run_underlying hu]

theorem run_equalIn_nilNil {ms : Array (String × TypeId)} (hu : P.underlying t = some (.interface ms)) (d : Nat) : (Op.equalIn (d + 1) t .nilIface .nilIface).run P w = .ok true w := by
  simp [Op.equalIn, run_underlying hu]

/-- An interface value against the literal nil. -/
theorem Ev.ifNilEq {t' T : TypeId} {ms : Array (String × TypeId)} {v : Value} (hx : e.val x = some (.iface T v)) (hu : P.underlying t = some (.interface ms)) :
    Ev P w e (.binOp .eql t x (.const .nilIface) t') ty (.bool false) := .of fun ρ hρ _ _ _ _ => by
  have h := run_equal_of (w := w) fun d => run_equalIn_ifaceNil (P := P) (T := T) (v := v) hu d
  simp [execOp, hρ _ _ hx, hρ (.const .nilIface) .nilIface rfl, eqGuard, binOp, h]
theorem Ev.ifNilEqT {t' : TypeId} {ms : Array (String × TypeId)} (hx : e.val x = some .nilIface) (hu : P.underlying t = some (.interface ms)) :
    Ev P w e (.binOp .eql t x (.const .nilIface) t') ty (.bool true) := .of fun ρ hρ _ _ _ _ => by
  have h := run_equal_of (w := w) fun d => run_equalIn_nilNil (P := P) hu d
  simp [execOp, hρ _ _ hx, hρ (.const .nilIface) .nilIface rfl, eqGuard, binOp, h]
theorem Ev.ifNilNe {t' T : TypeId} {ms : Array (String × TypeId)} {v : Value} (hx : e.val x = some (.iface T v)) (hu : P.underlying t = some (.interface ms)) :
    Ev P w e (.binOp .neq t x (.const .nilIface) t') ty (.bool true) := .of fun ρ hρ _ _ _ _ => by
  have h := run_equal_of (w := w) fun d => run_equalIn_ifaceNil (P := P) (T := T) (v := v) hu d
  simp [execOp, hρ _ _ hx, hρ (.const .nilIface) .nilIface rfl, eqGuard, binOp, h]
theorem Ev.ifNilNeF {t' : TypeId} {ms : Array (String × TypeId)} (hx : e.val x = some .nilIface) (hu : P.underlying t = some (.interface ms)) :
    Ev P w e (.binOp .neq t x (.const .nilIface) t') ty (.bool false) := .of fun ρ hρ _ _ _ _ => by
  have h := run_equal_of (w := w) fun d => run_equalIn_nilNil (P := P) hu d
  simp [execOp, hρ _ _ hx, hρ (.const .nilIface) .nilIface rfl, eqGuard, binOp, h]
end

/-! ### Strings out of bytes -/

theorem toList_loop (s : ByteArray) : ∀ (m i : Nat) (r : List UInt8), s.size - i = m → ByteArray.toList.loop s i r = r.reverse ++ s.data.toList.drop i
  | 0, i, r, h => by
    unfold ByteArray.toList.loop
    have hle : s.data.toList.length ≤ i := by
      have : s.size = s.data.toList.length := by rw [Array.length_toList]; rfl
      omega
    rw [if_neg (by omega), List.drop_eq_nil_of_le hle, List.append_nil]
  | m + 1, i, r, h => by
    unfold ByteArray.toList.loop
    have hlt : i < s.size := by omega
    have hl : i < s.data.toList.length := by rw [Array.length_toList]; exact hlt
    rw [if_pos hlt, toList_loop s m (i + 1) _ (by omega), List.drop_eq_getElem_cons hl]
    have : s.get! i = s.data.toList[i] := by
      have h2 : i < s.data.size := by simpa using hl
      simp only [ByteArray.get!]
      rw [getElem!_pos s.data i h2]
      simp
    rw [this]
    simp

theorem toList_data (s : ByteArray) : s.toList = s.data.toList := by
  have := toList_loop s _ 0 [] rfl
  simpa [ByteArray.toList] using this

section
variable {P : Program} {w : World} {e : Env} {ty t t2 : TypeId} {x y : Operand} {v : Value} {L : List (Nat × Obj)} {cs bs : List UInt8}

/-- Two strings, by their bytes. -/
theorem Ev.strEqB {t' : TypeId} (hx : e.val x = some (.string ⟨cs.toArray⟩)) (hy : e.val y = some (.string ⟨bs.toArray⟩)) : Ev P w e (.binOp .eql t x y t') ty (.bool (cs == bs)) := by
  have := Ev.strEq (P := P) (w := w) (ty := ty) (t := t) (t' := t') hx hy
  rw [toList_data, toList_data] at this
  exact this
theorem Ev.strNeB {t' : TypeId} (hx : e.val x = some (.string ⟨cs.toArray⟩)) (hy : e.val y = some (.string ⟨bs.toArray⟩)) : Ev P w e (.binOp .neq t x y t') ty (.bool (!(cs == bs))) := by
  have := Ev.strNe (P := P) (w := w) (ty := ty) (t := t) (t' := t') hx hy
  rw [toList_data, toList_data] at this
  exact this

/-- 'string(b)' of bytes that somebody has. -/
theorem Ev.inpStr [Strm] {el : TypeId} (H : SL w L) (hx : e.val x = some v) (hv : Inp L v bs) (hs : P.underlying t = some (.slice el)) (he : P.underlying el = some (.int .u8)) (hd : P.underlying t2 = some .string) :
    Ev P w e (.convert t t2 x) ty (.string ⟨bs.toArray⟩) := by
  obtain ⟨a, c, rfl, hc⟩ := hv.len
  cases a with
  | none =>
    obtain rfl := hv.none_eq
    exact Ev.nilStr hx hs he hd
  | some ad => exact Ev.bytesStr H hx hs he hd rfl hv.reads

/-- A row of bytes that is known, as bytes that somebody has. -/
theorem Inp.lit {b : Nat} {T : TypeId} {fr : Nat × Nat} (hm : (b, Obj.cells (bs.map BV).toArray T fr) ∈ L) : Inp L (.slice (some ⟨b, 0, none⟩) bs.length bs.length) bs :=
  .blk b 0 _ bs (Nat.le_refl _) fun i hi => Rd.mk hm (by simp [hi])
end

theorem Ev.strNeBF {P : Program} {w : World} {e : Env} {ty t t' : TypeId} {x y : Operand} {bs : List UInt8} (hx : e.val x = some (.string ⟨bs.toArray⟩)) (hy : e.val y = some (.string ⟨bs.toArray⟩)) : Ev P w e (.binOp .neq t x y t') ty (.bool false) := by
  have := Ev.strNeB (P := P) (w := w) (ty := ty) (t := t) (t' := t') hx hy
  rw [beq_self_eq_true] at this
  exact this

theorem SL.swapL [Strm] {w : World} {A B F : List (Nat × Obj)} (h : SL w (A ++ (B ++ F))) : SL w (B ++ (A ++ F)) :=
  h.perm (by rw [← List.append_assoc, ← List.append_assoc]; exact List.perm_append_comm.append_right F)

theorem perm_in {α : Type} (A B F : List α) : (A ++ (B ++ F)).Perm (B ++ (A ++ F)) := by
  rw [← List.append_assoc, ← List.append_assoc]
  exact List.perm_append_comm.append_right F

theorem SL.headL [Strm] {w : World} {A F : List (Nat × Obj)} {x : Nat × Obj} (h : SL w (x :: (A ++ F))) : SL w (A ++ x :: F) := h.mid

theorem SL.dropIn [Strm] {w : World} {A B F : List (Nat × Obj)} (h : SL w (A ++ (B ++ F))) : SL w (A ++ F) := h.swapL.dropL

theorem gB_set {xs : List UInt8} {sp : List Value} {i : Nat} (hi : i < xs.length) (c : UInt8) : (xs.flatMap gB ++ sp).toArray.setIfInBounds i (BV c) = ((xs.set i c).flatMap gB ++ sp).toArray := by
  rw [gB_map, gB_map]
  apply Array.ext'
  simp only [Array.toList_setIfInBounds]
  rw [List.set_append_left _ _ (by simpa using hi), List.map_set]

section
variable {P : Program} {w : World} {e : Env} {ty t t2 : TypeId} {x y : Operand} {bs : List UInt8}
theorem Ev.strEqBT {t' : TypeId} (hx : e.val x = some (.string ⟨bs.toArray⟩)) (hy : e.val y = some (.string ⟨bs.toArray⟩)) : Ev P w e (.binOp .eql t x y t') ty (.bool true) := by
  have := Ev.strEqB (P := P) (w := w) (ty := ty) (t := t) (t' := t') hx hy
  rw [beq_self_eq_true] at this
  exact this
end

section
variable {P : Program} {w : World} {e : Env} {ty t : TypeId} {x y : Operand}
theorem run_equalIn_bool {a b : Bool} (hu : P.underlying t = some .bool) (d : Nat) : (Op.equalIn (d + 1) t (.bool a) (.bool b)).run P w = .ok (a == b) w := by
  simp [Op.equalIn, run_underlying hu]

theorem Ev.boolEq {t' : TypeId} {a b r : Bool} (hx : e.val x = some (.bool a)) (hy : e.val y = some (.bool b)) (hu : P.underlying t = some .bool) (hr : (a == b) = r := by rfl) : Ev P w e (.binOp .eql t x y t') ty (.bool r) := .of fun ρ hρ _ _ _ _ => by
  have h := run_equal_of (w := w) fun d => run_equalIn_bool (P := P) (a := a) (b := b) hu d
  subst hr
  simp [execOp, hρ _ _ hx, hρ _ _ hy, eqGuard, binOp, h]
theorem Ev.boolNe {t' : TypeId} {a b r : Bool} (hx : e.val x = some (.bool a)) (hy : e.val y = some (.bool b)) (hu : P.underlying t = some .bool) (hr : (a != b) = r := by rfl) : Ev P w e (.binOp .neq t x y t') ty (.bool r) := .of fun ρ hρ _ _ _ _ => by
  have h := run_equal_of (w := w) fun d => run_equalIn_bool (P := P) (a := a) (b := b) hu d
  subst hr
  simp [execOp, hρ _ _ hx, hρ _ _ hy, eqGuard, binOp, h, bne]
end

/-- A number as one without a sign. -/
theorem u64_nat (z : Int) : ∃ m : Nat, IntKind.u64.wrap z = (m : Int) ∧ m < 18446744073709551616 := by
  simp only [IntKind.wrap, IntKind.bits, IntKind.signed, Bool.false_and, Bool.false_eq_true, if_false]
  exact ⟨(z % 18446744073709551616).toNat, by omega, by omega⟩

end Go.Proofs.YtniihnncgblocaaDoor.V
