/-
  The proof's parts, in one file: VInp, VFun, VRange, Pages, PagesA, Srt, VRow, VEls, VRows, VRd, VMap, VIns.
-/
import Derived.Test.YtflfaiakenahlaaGreatDoorM1
import Derived.Test.YtflfaiakenahlaaGreatDoorProg
import Derived.Shelf.Sort.Plain
import Derived.Shelf.Slices.In.SortNone
import Derived.ProofKit
import Derived.OpenShut
import Derived.Below
import Derived.Carry
import Derived.ChangeOld
import Derived.ChangeSlices
import Derived.Deep.DeepHandedRow
import Derived.Lib.LaidTab
import Derived.Deep.Slices
import Derived.Deep.Fields
import Derived.Maps.Keyed
import Derived.DeepKeys4
import Derived.Lib.Overlaps

section
/-
  The engine: bytes that came in (or that somebody else has): what is read there, and what is cut from them.
-/
namespace Go.Proofs.YtflfaiakenahlaaGreatDoor.V

abbrev gB (x : UInt8) : List Value := [BV x]

theorem gB_map (xs : List UInt8) : xs.flatMap gB = xs.map BV := flatMap_one BV xs

/-- Bytes that somebody else has: what is read there. -/
inductive Inp (L : List (Nat × Obj)) : Value → List UInt8 → Prop where
  | nil : Inp L (.slice none 0 0) []
  | empty (a : Addr) (c : Nat) : Inp L (.slice (some a) 0 c) []
  | blk (b off c : Nat) (bs : List UInt8) : bs.length ≤ c → (∀ i, i < bs.length → Rd L ⟨b, off + i, none⟩ (BV (bs.getD i 0))) → Inp L (.slice (some ⟨b, off, none⟩) bs.length c) bs

theorem Inp.sub {L L' : List (Nat × Obj)} {v : Value} {bs : List UInt8} (h : Inp L v bs) (hs : ∀ p ∈ L, p ∈ L') : Inp L' v bs := by
  cases h with
  | nil => exact .nil
  | empty a c => exact .empty a c
  | blk b off c bs hc hr => exact .blk b off c bs hc fun i hi => (hr i hi).sub hs

theorem Inp.right {L A : List (Nat × Obj)} {v : Value} {bs : List UInt8} (h : Inp L v bs) : Inp (A ++ L) v bs := h.sub fun _ hp => List.mem_append_right _ hp

theorem Inp.tail {L : List (Nat × Obj)} {x : Nat × Obj} {v : Value} {bs : List UInt8} (h : Inp L v bs) : Inp (x :: L) v bs := h.sub fun _ hp => .tail _ hp

theorem Inp.len {L : List (Nat × Obj)} {v : Value} {bs : List UInt8} (h : Inp L v bs) : ∃ a c, v = .slice a bs.length c ∧ bs.length ≤ c := by
  cases h with
  | nil => exact ⟨_, _, rfl, by simp⟩
  | empty a c => exact ⟨_, _, rfl, by simp⟩
  | blk b off c bs hc hr => exact ⟨_, _, rfl, hc⟩

theorem Inp.src [Strm] {w : World} {L : List (Nat × Obj)} {v : Value} {bs : List UInt8} (H : SL w L) (h : Inp L v bs) : Src w 1 v bs.length (bs.flatMap gB) := by
  cases h with
  | nil => exact .nil _
  | empty a c => exact .slice _ _ _ _ (by simp) fun i v hi => by simp at hi
  | blk b off c bs hc hr =>
    refine .slice _ _ _ _ (by rw [gB_map]; simp) fun i v hi => ?_
    rw [gB_map] at hi
    have hlt : i < bs.length := by
      rcases Nat.lt_or_ge i bs.length with h | h
      · exact h
      · rw [List.getElem?_eq_none (by simpa using h)] at hi; cases hi
    have e : (bs.map BV)[i]? = some (BV (bs.getD i 0)) := by simp [hlt]
    rw [e] at hi
    cases hi
    rw [add_none]
    exact Rd.cell H (hr i hlt)

theorem Inp.take {L : List (Nat × Obj)} {a : Option Addr} {n c k : Nat} {bs : List UInt8} (h : Inp L (.slice a n c) bs) (hk : k ≤ n) : Inp L (.slice (cutAddr a 0 c 1) (k - 0) (c - 0)) (bs.take k) := by
  cases h with
  | nil =>
    obtain rfl : k = 0 := by omega
    exact .nil
  | empty a c =>
    obtain rfl : k = 0 := by omega
    unfold cutAddr
    split
    · exact .empty _ _
    · exact .empty _ _
  | blk b off c bs hc hr =>
    have e : cutAddr (some (⟨b, off, none⟩ : Addr)) 0 c 1 = some ⟨b, off, none⟩ := by
      unfold cutAddr
      split
      · rfl
      · simp [add_none]
    have hl : (bs.take k).length = k := by rw [List.length_take]; omega
    have := Inp.blk (L := L) b off c (bs.take k) (by omega) fun i hi => by
      have := hr i (by omega)
      have e2 : (bs.take k).getD i 0 = bs.getD i 0 := by simp [List.getD_eq_getElem?_getD, show i < k by omega]
      rw [e2]; exact this
    rw [hl] at this
    rw [e]
    exact this

theorem Inp.drop {L : List (Nat × Obj)} {a : Option Addr} {n c k : Nat} {bs : List UInt8} (h : Inp L (.slice a n c) bs) (hk : k ≤ n) : Inp L (.slice (cutAddr a k c 1) (n - k) (c - k)) (bs.drop k) := by
  cases h with
  | nil =>
    obtain rfl : k = 0 := by omega
    exact .nil
  | empty a c =>
    obtain rfl : k = 0 := by omega
    unfold cutAddr
    split
    · exact .empty _ _
    · exact .empty _ _
  | blk b off c bs hc hr =>
    have hl : (bs.drop k).length = bs.length - k := List.length_drop
    by_cases hck : c = k
    · have e : cutAddr (some (⟨b, off, none⟩ : Addr)) k c 1 = some ⟨b, off, none⟩ := by simp [cutAddr, hck]
      have := Inp.blk (L := L) b off (c - k) (bs.drop k) (by omega) fun i hi => by omega
      rw [hl] at this
      rw [e]
      exact this
    · have e : cutAddr (some (⟨b, off, none⟩ : Addr)) k c 1 = some ⟨b, off + k, none⟩ := by simp [cutAddr, hck, add_none]
      have := Inp.blk (L := L) b (off + k) (c - k) (bs.drop k) (by omega) fun i hi => by
        have h2 := hr (k + i) (by omega)
        have e2 : (bs.drop k).getD i 0 = bs.getD (k + i) 0 := by simp [List.getD_eq_getElem?_getD, List.getElem?_drop]
        rw [e2, Nat.add_assoc]; exact h2
      rw [hl] at this
      rw [e]
      exact this

/-- A slice of bytes of one's own, as one that is read. -/
theorem Slc.inp {L B : List (Nat × Obj)} {T : TypeId} {v : Value} {bs : List UInt8} (h : Slc gB 1 T v bs B) : Inp (B ++ L) v bs := by
  cases h with
  | nil => exact .nil
  | blk b xs cap spare fr h1 h2 h3 =>
    refine .blk b 0 cap bs h2 fun i hi => ?_
    rw [Nat.zero_add]
    refine Rd.mk (.head _) ?_
    rw [List.getElem?_toArray, gB_map, List.getElem?_append_left (by simpa using hi)]
    simp [hi]

theorem Slc.cut0 {T : TypeId} {b n c : Nat} {xs : List UInt8} {B : List (Nat × Obj)} (h : Slc gB 1 T (.slice (some ⟨b, 0, none⟩) n c) xs B) (hn : 0 < xs.length) :
    Slc gB 1 T (.slice (cutAddr (some ⟨b, 0, none⟩) 0 c 1) (0 - 0) (c - 0)) [] B := by
  obtain ⟨b', c', sp, fr, e1, rfl, h1, h2, h3⟩ := h.shape hn
  cases e1
  have e : cutAddr (some (⟨b, 0, none⟩ : Addr)) 0 c 1 = some ⟨b, 0, none⟩ := by
    unfold cutAddr
    split
    · rfl
    · simp [add_none]
  rw [e]
  have := Slc.blk (g := gB) (sz := 1) (T := T) b [] c (xs.flatMap gB ++ sp) fr (by rw [List.length_append, flatMap_length (g := gB) (sz := 1) (fun _ => rfl)]; simp only [List.length_nil]; omega) (by simp) h3
  simpa using this

theorem Inp.reads {L : List (Nat × Obj)} {a : Option Addr} {n c : Nat} {xs : List UInt8} (h : Inp L (.slice a n c) xs) :
    match (generalizing := false) a with | none => xs.map BV = [] | some ad => ∀ i v, (xs.map BV)[i]? = some v → Rd L (ad.add i) v := by
  cases h with
  | nil => rfl
  | empty a c => intro i v hi; simp at hi
  | blk b off c xs hc hr =>
    intro i v hi
    have hlt : i < xs.length := by
      rcases Nat.lt_or_ge i xs.length with h | h
      · exact h
      · rw [List.getElem?_eq_none (by simpa using h)] at hi; cases hi
    have e : (xs.map BV)[i]? = some (BV (xs.getD i 0)) := by simp [hlt]
    rw [e] at hi
    cases hi
    rw [add_none]
    exact hr i hlt

end Go.Proofs.YtflfaiakenahlaaGreatDoor.V
end

section
/-
  The engine: function values; literals of elements of several cells, and of none; clear; a slice against nil.
-/
namespace Go.Proofs.YtflfaiakenahlaaGreatDoor.V

theorem Upd.skip {b : Nat} {o o' : Obj} {l l' : List (Nat × Obj)} (h : Upd b o o' l l') : ∀ B : List (Nat × Obj), Upd b o o' (B ++ l) (B ++ l')
  | [] => h
  | _ :: B => (h.skip B).tail

theorem Inp.none_eq {L : List (Nat × Obj)} {n c : Nat} {bs : List UInt8} (h : Inp L (.slice none n c) bs) : bs = [] := by
  generalize hv : Value.slice none n c = v at h
  cases h with
  | nil => rfl
  | empty a c => cases hv
  | blk b off c bs hc hr => cases hv

section
variable {P : Program} {w : World} {e : Env} {ty t t2 : TypeId} {x y z : Operand} {v u : Value} {L L' B : List (Nat × Obj)}

theorem Ev.makeFunc {fn : Fn} {l1 l2 : List Operand} {vs us : List Value} (h1 : e.vals l1 = some vs) (h2 : e.vals l2 = some us) : Ev P w e (.makeFunc fn l1.toArray l2.toArray) ty (.func fn vs.toArray us.toArray) := .of fun ρ hρ _ _ _ _ => by
  have a1 := Env.vals_map hρ h1
  have a2 := Env.vals_map hρ h2
  simp [execOp, Instr.makeFunc, a1, a2]

theorem Ex.buildSlP [Strm] {len sz : Nat} {l : List (Nat × Operand)} {ps : List (Nat × Value)} {cs : List Value} {T : TypeId} {zv : Value} (H : SL w L) (hl : e.partsI l = some ps) (ht : slT P t = some (T, sz)) (hz : zeroT P T = some zv)
    (hf : fillP (fun i => some (i * sz, sz)) ((List.range (len * sz)).map (zv.cells[· % zv.cells.size]!)).toArray ps = some cs.toArray) (h0 : 0 < len * sz) (hlen : len * sz ≤ 16777216) :
    Ex P w e (.buildSlice t len l.toArray) ty fun v w' => ∃ b, v = .slice (some ⟨b, 0, none⟩) len len ∧ SL w' ((b, .cells cs.toArray T (0, 0)) :: L) := .of fun ρ hρ _ _ _ _ => by
  obtain ⟨hu, inf, hi, hs⟩ := slT_spec ht
  have h1 := Env.partsI_map hρ hl
  simp only [zeroT, hi, Option.bind_some] at hz
  subst hs
  have h24 : ¬ (len * inf.size > 2 ^ 24) := by omega
  have hne : ¬ (len * inf.size = 0) := by omega
  have hfill := fill_of_fillP _ _ _ _ hf
  have he : ((List.range (len * inf.size)).map (zv.cells[· % zv.cells.size]!)).toArray = (Array.range (len * inf.size)).map (zv.cells[· % zv.cells.size]!) := by
    apply Array.ext'
    simp
  rw [he] at hfill
  simp only [execOp, Instr.buildSlice, Sem.run_bind, run_underlying hu, Result.andThen, sizeOf, typeInfo, run_program, hi, Sem.run_pure, h24, hne, if_false, zeroValue, hz]
  simp only [List.map_toArray, h1] at *
  rw [hfill]
  simp only [newRow, Sem.run_bind, run_newObj, Result.andThen, Sem.run_pure]
  exact ⟨w.heap.size, rfl, H.alloc _⟩

theorem Ex.buildSl0 [Strm] {sz : Nat} {T : TypeId} (H : SL w L) (ht : slT P t = some (T, sz)) :
    Ex P w e (.buildSlice t 0 #[]) ty fun v w' => ∃ b, v = .slice (some ⟨b, 0, none⟩) 0 0 ∧ SL w' ((b, .cells #[] T (0, 0)) :: L) := .of fun ρ hρ _ _ _ _ => by
  obtain ⟨hu, inf, hi, hs⟩ := slT_spec ht
  simp [execOp, Instr.buildSlice, run_underlying hu, sizeOf, typeInfo, hi, Instr.fill, newRow]
  have h := H.alloc (.cells #[] T (0, 0))
  have e0 : Array.map (fun _ => (default : Value)) (Array.range 0) = #[] := by
    apply Array.ext'
    simp
  refine ⟨w.heap.size, rfl, ?_⟩
  rw [e0]
  exact h

/-- The row of an empty literal, as a slice of one's own. -/
theorem Slc.lit0 {α : Type} {g : α → List Value} {sz : Nat} {T : TypeId} (b : Nat) : Slc g sz T (.slice (some ⟨b, 0, none⟩) 0 0) [] [(b, .cells #[] T (0, 0))] :=
  .blk b [] 0 [] (0, 0) (by simp) (by simp) (Thaw.zero _ _)

theorem run_equalIn_slNil {t el : TypeId} {a : Option Addr} {n c : Nat} (hu : P.underlying t = some (.slice el)) (d : Nat) : (Op.equalIn (d + 1) t (.slice a n c) (.slice none 0 0)).run P w = .ok a.isNone w := by
  have h1 := run_underlying (w := w) hu
  cases a <;> simp [Op.equalIn, h1]

theorem Ev.slNilEq {t' el : TypeId} {a : Option Addr} {n c : Nat} (hx : e.val x = some (.slice a n c)) (hy : e.val y = some (.slice none 0 0)) (hu : P.underlying t = some (.slice el)) :
    Ev P w e (.binOp .eql t x y t') ty (.bool a.isNone) := .of fun ρ hρ _ _ _ _ => by
  have h := run_equal_of (w := w) fun d => run_equalIn_slNil (a := a) (n := n) (c := c) hu d
  simp [execOp, hρ _ _ hx, hρ _ _ hy, eqGuard, binOp, h]

theorem Ev.slNilNe {t' el : TypeId} {a : Option Addr} {n c : Nat} (hx : e.val x = some (.slice a n c)) (hy : e.val y = some (.slice none 0 0)) (hu : P.underlying t = some (.slice el)) :
    Ev P w e (.binOp .neq t x y t') ty (.bool (!a.isNone)) := .of fun ρ hρ _ _ _ _ => by
  have h := run_equal_of (w := w) fun d => run_equalIn_slNil (a := a) (n := n) (c := c) hu d
  simp [execOp, hρ _ _ hx, hρ _ _ hy, eqGuard, binOp, h]

/-- x[:0] of a slice of one's own; and clear leaves it fit for that. -/
def cut0 (sz : Nat) : Value → Value
  | .slice a _ c => .slice (cutAddr a 0 c sz) (0 - 0) (c - 0)
  | v => v

theorem cutAddr_zero (a : Option Addr) (c sz : Nat) : cutAddr a 0 c sz = a := by
  unfold cutAddr
  split
  · rfl
  · cases a with
    | none => rfl
    | some a => simp [Addr.add]

theorem Ex.clear [Strm] {α : Type} {g : α → List Value} {sz : Nat} {T : TypeId} {zv : Value} {xs : List α} (H : SL w (B ++ L)) (hx : e.val x = some v) (hs : Slc g sz T v xs B) (hg : ∀ x, (g x).length = sz) (ht : slT P t = some (T, sz))
    (hz : zeroT P T = some zv) (hzs : zv.cells.size = sz) (hone : ∀ v ∈ zv.cells.toList, v.oneCell' = true) :
    Ex P w e (.call ⟨.builtin .clear, #[x], #[t]⟩) ty fun v' w' => v' = .tuple #[] ∧ ∃ B', Slc g sz T (cut0 sz v) [] B' ∧ SL w' (B' ++ L) := .of fun ρ hρ _ _ _ _ => by
  obtain ⟨hu, inf, hi, hsz⟩ := slT_spec ht
  have hz' := hz
  simp only [zeroT, hi, Option.bind_some] at hz'
  have fin : ∀ w', (Builtin.clear_ #[t] ty #[v]).run P w = .ok (.tuple #[]) w' → (∃ B', Slc g sz T (cut0 sz v) [] B' ∧ SL w' (B' ++ L)) →
      Lands P (fun v' w' => v' = .tuple #[] ∧ ∃ B', Slc g sz T (cut0 sz v) [] B' ∧ SL w' (B' ++ L)) ((execOp ρ ⟨‹_›, .call ⟨.builtin .clear, #[x], #[t]⟩, ty, ‹_›, ‹_›, ‹_›⟩).run P w) := fun w' hr h => by
    have e1 : (execOp ρ ⟨‹_›, .call ⟨.builtin .clear, #[x], #[t]⟩, ty, ‹_›, ‹_›, ‹_›⟩).run P w = .ok (.value (.tuple #[])) w' := by
      simp [execOp, resolve, invoke, builtin, hρ _ _ hx, hr]
    rw [e1]
    exact ⟨rfl, h⟩
  cases hs with
  | nil =>
    refine fin w (by simp [Builtin.clear_, run_underlying hu]) ⟨[], ?_, H⟩
    simp only [cut0, cutAddr_zero]
    exact .nil
  | blk b xs' cap spare fr hsp hle hfr =>
    have hxs := flatMap_length hg xs
    have hm : (b, Obj.cells (xs.flatMap g ++ spare).toArray T fr) ∈ [(b, Obj.cells (xs.flatMap g ++ spare).toArray T fr)] ++ L := .head _
    by_cases h0 : xs.length = 0
    · have : xs = [] := List.eq_nil_of_length_eq_zero h0
      subst this
      refine fin w (by simp [Builtin.clear_, run_underlying hu]) ⟨_, ?_, H⟩
      simp only [cut0, cutAddr_zero]
      exact .blk b [] cap spare fr hsp hle hfr
    · have hzc : (Builtin.zeroCells zv.cells xs.length).toList.length = xs.length * sz := by rw [zeroCells_len, hzs]
      have hmul : xs.length * sz ≤ cap * sz := Nat.mul_le_mul_right _ hle
      have h1c : ∀ c ∈ (Builtin.zeroCells zv.cells xs.length).toList, c.oneCell' = true := by
        intro c hc
        simp only [Builtin.zeroCells] at hc
        simp at hc
        obtain ⟨i, hi, rfl⟩ := hc
        by_cases hlt : i % zv.cells.size < zv.cells.size
        · exact hone _ (by simp [hlt])
        · have : zv.cells.size = 0 := by
            rcases Nat.eq_zero_or_pos zv.cells.size with h | h
            · exact h
            · exact absurd (Nat.mod_lt _ h) hlt
          rw [this, Nat.mul_zero] at hi
          omega
      obtain ⟨w', hr, h1, h3, hk⟩ := run_storeCells (P := P) (Builtin.zeroCells zv.cells xs.length).toList h1c w 0 0 _ (H.1 _ hm) (by simp only [List.size_toArray, List.length_append, hxs]; omega) (fun j h4 h5 => hfr.not j (by omega) (by omega))
      simp only [Nat.add_zero] at h1
      have hrun : (Builtin.clear_ #[t] ty #[.slice (some ⟨b, 0, none⟩) xs.length cap]).run P w = .ok (.tuple #[]) w' := by
        obtain ⟨k, hk⟩ : ∃ k, xs.length = k + 1 := ⟨xs.length - 1, by omega⟩
        rw [hk] at hr ⊢
        simp [Builtin.clear_, run_underlying hu, zeroValue, typeInfo, hi, hz', hr]
      refine fin w' hrun ⟨[(b, .cells ((Builtin.zeroCells zv.cells xs.length).toList ++ spare).toArray T fr)], ?_, ?_⟩
      · simp only [cut0, cutAddr_zero]
        have := Slc.blk (g := g) (sz := sz) (T := T) b [] cap ((Builtin.zeroCells zv.cells xs.length).toList ++ spare) fr (by rw [List.length_append, hzc]; simp only [List.length_nil]; omega) (by simp) hfr
        simpa using this
      · have e1 : putAt (xs.flatMap g ++ spare).toArray 0 (Builtin.zeroCells zv.cells xs.length).toList = ((Builtin.zeroCells zv.cells xs.length).toList ++ spare).toArray := by
          have := putAt_append (pre := []) (mid := xs.flatMap g) (post := spare) (vs := (Builtin.zeroCells zv.cells xs.length).toList) (off := 0) rfl (by rw [hzc, hxs])
          simpa using this
        rw [e1] at h1
        exact H.upd .head h1 h3 hk

/-- x[:0] of a slice of one's own, after clear. -/
theorem Ev.slSl0 {a : Option Addr} {len cap : Nat} {el sz : Nat} (hx : e.val x = some (.slice a len cap)) (ht : slT P t = some (el, sz)) (hle : len ≤ cap) :
    Ev P w e (.slice t x none (some (.const (.int .i64 0))) none) ty (cut0 sz (.slice a len cap)) :=
  Ev.slSl (l := 0) (h := 0) hx ht rfl ⟨_, rfl⟩ (Nat.le_refl _) (by omega) hle

theorem Slc.leCap {α : Type} {g : α → List Value} {sz : Nat} {T : TypeId} {xs : List α} (hs : Slc g sz T v xs B) : ∃ a c, v = .slice a xs.length c ∧ xs.length ≤ c := by
  cases hs with
  | nil => exact ⟨_, _, rfl, by simp⟩
  | blk b xs' cap spare fr h1 h2 h3 => exact ⟨_, _, rfl, h2⟩

theorem Fits.setSlot {ds : List Deferred} {n d : Nat} {tmps : Array Value} (h : Fits ds n e { tmps := tmps, defers := ds }) (hd : Nat.blt d n = true) (v : Value) : Fits ds n ((d, v) :: e) { tmps := tmps.setIfInBounds d v, defers := ds } :=
  h.put hd v

end
section
variable {P : Program} {w : World} {e : Env} {ty t : TypeId} {x : Operand}

theorem run_equalIn_ifaceNil {ms : Array (String × TypeId)} {T : TypeId} {v : Value} (hu : P.underlying t = some (.interface ms)) (d : Nat) : (Op.equalIn (d + 1) t (.iface T v) .nilIface).run P w = .ok false w := by
  simp [Op.equalIn, run_underlying hu]

theorem run_equalIn_nilNil {ms : Array (String × TypeId)} (hu : P.underlying t = some (.interface ms)) (d : Nat) : (Op.equalIn (d + 1) t .nilIface .nilIface).run P w = .ok true w := by
  simp [Op.equalIn, run_underlying hu]

/-- An interface value against the literal nil. -/
theorem Ev.ifNilEq {t' T : TypeId} {ms : Array (String × TypeId)} {v : Value} (hx : e.val x = some (.iface T v)) (hu : P.underlying t = some (.interface ms)) :
    Ev P w e (.binOp .eql t x (.const .nilIface) t') ty (.bool false) := .of fun ρ hρ _ _ _ _ => by
  have h := run_equal_of (w := w) fun d => run_equalIn_ifaceNil (P := P) (T := T) (v := v) hu d
  simp [execOp, hρ _ _ hx, hρ (.const .nilIface) .nilIface rfl, eqGuard, binOp, h]
theorem Ev.ifNilEqT {t' : TypeId} {ms : Array (String × TypeId)} (hx : e.val x = some .nilIface) (hu : P.underlying t = some (.interface ms)) :
    Ev P w e (.binOp .eql t x (.const .nilIface) t') ty (.bool true) := .of fun ρ hρ _ _ _ _ => by
  have h := run_equal_of (w := w) fun d => run_equalIn_nilNil (P := P) hu d
  simp [execOp, hρ _ _ hx, hρ (.const .nilIface) .nilIface rfl, eqGuard, binOp, h]
theorem Ev.ifNilNe {t' T : TypeId} {ms : Array (String × TypeId)} {v : Value} (hx : e.val x = some (.iface T v)) (hu : P.underlying t = some (.interface ms)) :
    Ev P w e (.binOp .neq t x (.const .nilIface) t') ty (.bool true) := .of fun ρ hρ _ _ _ _ => by
  have h := run_equal_of (w := w) fun d => run_equalIn_ifaceNil (P := P) (T := T) (v := v) hu d
  simp [execOp, hρ _ _ hx, hρ (.const .nilIface) .nilIface rfl, eqGuard, binOp, h]
theorem Ev.ifNilNeF {t' : TypeId} {ms : Array (String × TypeId)} (hx : e.val x = some .nilIface) (hu : P.underlying t = some (.interface ms)) :
    Ev P w e (.binOp .neq t x (.const .nilIface) t') ty (.bool false) := .of fun ρ hρ _ _ _ _ => by
  have h := run_equal_of (w := w) fun d => run_equalIn_nilNil (P := P) hu d
  simp [execOp, hρ _ _ hx, hρ (.const .nilIface) .nilIface rfl, eqGuard, binOp, h]
end

/-! ### Strings out of bytes -/

theorem toList_loop (s : ByteArray) : ∀ (m i : Nat) (r : List UInt8), s.size - i = m → ByteArray.toList.loop s i r = r.reverse ++ s.data.toList.drop i
  | 0, i, r, h => by
    unfold ByteArray.toList.loop
    have hle : s.data.toList.length ≤ i := by
      have : s.size = s.data.toList.length := by rw [Array.length_toList]; rfl
      omega
    rw [if_neg (by omega), List.drop_eq_nil_of_le hle, List.append_nil]
  | m + 1, i, r, h => by
    unfold ByteArray.toList.loop
    have hlt : i < s.size := by omega
    have hl : i < s.data.toList.length := by rw [Array.length_toList]; exact hlt
    rw [if_pos hlt, toList_loop s m (i + 1) _ (by omega), List.drop_eq_getElem_cons hl]
    have : s.get! i = s.data.toList[i] := by
      have h2 : i < s.data.size := by simpa using hl
      simp only [ByteArray.get!]
      rw [getElem!_pos s.data i h2]
      simp
    rw [this]
    simp

theorem toList_data (s : ByteArray) : s.toList = s.data.toList := by
  have := toList_loop s _ 0 [] rfl
  simpa [ByteArray.toList] using this

section
variable {P : Program} {w : World} {e : Env} {ty t t2 : TypeId} {x y : Operand} {v : Value} {L : List (Nat × Obj)} {cs bs : List UInt8}

/-- Two strings, by their bytes. -/
theorem Ev.strEqB {t' : TypeId} (hx : e.val x = some (.string ⟨cs.toArray⟩)) (hy : e.val y = some (.string ⟨bs.toArray⟩)) : Ev P w e (.binOp .eql t x y t') ty (.bool (cs == bs)) := by
  have := Ev.strEq (P := P) (w := w) (ty := ty) (t := t) (t' := t') hx hy
  rw [toList_data, toList_data] at this
  exact this
theorem Ev.strNeB {t' : TypeId} (hx : e.val x = some (.string ⟨cs.toArray⟩)) (hy : e.val y = some (.string ⟨bs.toArray⟩)) : Ev P w e (.binOp .neq t x y t') ty (.bool (!(cs == bs))) := by
  have := Ev.strNe (P := P) (w := w) (ty := ty) (t := t) (t' := t') hx hy
  rw [toList_data, toList_data] at this
  exact this

/-- 'string(b)' of bytes that somebody has. -/
theorem Ev.inpStr [Strm] {el : TypeId} (H : SL w L) (hx : e.val x = some v) (hv : Inp L v bs) (hs : P.underlying t = some (.slice el)) (he : P.underlying el = some (.int .u8)) (hd : P.underlying t2 = some .string) :
    Ev P w e (.convert t t2 x) ty (.string ⟨bs.toArray⟩) := by
  obtain ⟨a, c, rfl, hc⟩ := hv.len
  cases a with
  | none =>
    obtain rfl := hv.none_eq
    exact Ev.nilStr hx hs he hd
  | some ad => exact Ev.bytesStr H hx hs he hd rfl hv.reads

/-- A row of bytes that is known, as bytes that somebody has. -/
theorem Inp.lit {b : Nat} {T : TypeId} {fr : Nat × Nat} (hm : (b, Obj.cells (bs.map BV).toArray T fr) ∈ L) : Inp L (.slice (some ⟨b, 0, none⟩) bs.length bs.length) bs :=
  .blk b 0 _ bs (Nat.le_refl _) fun i hi => Rd.mk hm (by simp [hi])
end

theorem Ev.strNeBF {P : Program} {w : World} {e : Env} {ty t t' : TypeId} {x y : Operand} {bs : List UInt8} (hx : e.val x = some (.string ⟨bs.toArray⟩)) (hy : e.val y = some (.string ⟨bs.toArray⟩)) : Ev P w e (.binOp .neq t x y t') ty (.bool false) := by
  have := Ev.strNeB (P := P) (w := w) (ty := ty) (t := t) (t' := t') hx hy
  rw [beq_self_eq_true] at this
  exact this

theorem SL.swapL [Strm] {w : World} {A B F : List (Nat × Obj)} (h : SL w (A ++ (B ++ F))) : SL w (B ++ (A ++ F)) :=
  h.perm (by rw [← List.append_assoc, ← List.append_assoc]; exact List.perm_append_comm.append_right F)

theorem perm_in {α : Type} (A B F : List α) : (A ++ (B ++ F)).Perm (B ++ (A ++ F)) := by
  rw [← List.append_assoc, ← List.append_assoc]
  exact List.perm_append_comm.append_right F

theorem SL.headL [Strm] {w : World} {A F : List (Nat × Obj)} {x : Nat × Obj} (h : SL w (x :: (A ++ F))) : SL w (A ++ x :: F) := h.mid

theorem SL.dropIn [Strm] {w : World} {A B F : List (Nat × Obj)} (h : SL w (A ++ (B ++ F))) : SL w (A ++ F) := h.swapL.dropL

theorem gB_set {xs : List UInt8} {sp : List Value} {i : Nat} (hi : i < xs.length) (c : UInt8) : (xs.flatMap gB ++ sp).toArray.setIfInBounds i (BV c) = ((xs.set i c).flatMap gB ++ sp).toArray := by
  rw [gB_map, gB_map]
  apply Array.ext'
  simp only [Array.toList_setIfInBounds]
  rw [List.set_append_left _ _ (by simpa using hi), List.map_set]

section
variable {P : Program} {w : World} {e : Env} {ty t t2 : TypeId} {x y : Operand} {bs : List UInt8}
theorem Ev.strEqBT {t' : TypeId} (hx : e.val x = some (.string ⟨bs.toArray⟩)) (hy : e.val y = some (.string ⟨bs.toArray⟩)) : Ev P w e (.binOp .eql t x y t') ty (.bool true) := by
  have := Ev.strEqB (P := P) (w := w) (ty := ty) (t := t) (t' := t') hx hy
  rw [beq_self_eq_true] at this
  exact this
end

section
variable {P : Program} {w : World} {e : Env} {ty t : TypeId} {x y : Operand}
theorem run_equalIn_bool {a b : Bool} (hu : P.underlying t = some .bool) (d : Nat) : (Op.equalIn (d + 1) t (.bool a) (.bool b)).run P w = .ok (a == b) w := by
  simp [Op.equalIn, run_underlying hu]

theorem Ev.boolEq {t' : TypeId} {a b r : Bool} (hx : e.val x = some (.bool a)) (hy : e.val y = some (.bool b)) (hu : P.underlying t = some .bool) (hr : (a == b) = r := by rfl) : Ev P w e (.binOp .eql t x y t') ty (.bool r) := .of fun ρ hρ _ _ _ _ => by
  have h := run_equal_of (w := w) fun d => run_equalIn_bool (P := P) (a := a) (b := b) hu d
  subst hr
  simp [execOp, hρ _ _ hx, hρ _ _ hy, eqGuard, binOp, h]
theorem Ev.boolNe {t' : TypeId} {a b r : Bool} (hx : e.val x = some (.bool a)) (hy : e.val y = some (.bool b)) (hu : P.underlying t = some .bool) (hr : (a != b) = r := by rfl) : Ev P w e (.binOp .neq t x y t') ty (.bool r) := .of fun ρ hρ _ _ _ _ => by
  have h := run_equal_of (w := w) fun d => run_equalIn_bool (P := P) (a := a) (b := b) hu d
  subst hr
  simp [execOp, hρ _ _ hx, hρ _ _ hy, eqGuard, binOp, h, bne]
end

/-- A number as one without a sign. -/
theorem u64_nat (z : Int) : ∃ m : Nat, IntKind.u64.wrap z = (m : Int) ∧ m < 18446744073709551616 := by
  simp only [IntKind.wrap, IntKind.bits, IntKind.signed, Bool.false_and, Bool.false_eq_true, if_false]
  exact ⟨(z % 18446744073709551616).toNat, by omega, by omega⟩

end Go.Proofs.YtflfaiakenahlaaGreatDoor.V
end

section
/-
  The engine: a range over a function: the statement, a round of it, a call of yield, a return behind it.
-/
namespace Go.Proofs.YtflfaiakenahlaaGreatDoor.V

section
variable {P : Program} {C : Ctx} {f : FuncId} {R : Ending → World → Prop} {k : List Item} {w w' : World} {n : Nat} {e : Env} {L L' : List (Nat × Obj)}

theorem SL.put [Strm] {b : Nat} {o o' : Obj} (h : SL w L) (hu : Upd b o o' L L') : SL (w.putObj b o') L' := by
  have hlt := h.lt hu.mem
  exact h.upd hu (World.putObj_heap_same hlt) (fun c hc => World.putObj_heap_other hc) ⟨rfl, rfl, rfl⟩

/-- A round, from what its code does. -/
theorem Round.mk {l : Nat} {tmps : Array Value} {assign body : Code} {K : Value → World → Prop} (ht : Fits [] n e { tmps := tmps, defers := [] })
    (h : RunsE P ⟨f, some l, []⟩ (fun ev w' => ∃ v, ev = .returned v ∧ K v w') n [.code assign, .beginRound, .code body] e w) : Round P l f tmps assign body w K := .of fun c cs => by
  let b : Frame := { (default : Frame) with fn := f, kind := .normal, roundOf := some l }
  have hb0 : Frame.round l f tmps assign body .normal = b.atR { tmps := tmps, defers := [] } [.code assign, .beginRound, .code body] := by
    simp [Frame.round, Frame.atR, b]
  rw [hb0]
  obtain ⟨v, w', ⟨u, hu, hK⟩, hs⟩ := h.run _ ht b (c :: cs) rfl rfl rfl c cs rfl
  cases hu
  exact ⟨v, w', hK, hs⟩

theorem RunsE.beginRound [Strm] {l : Nat} {r : Loop} {ds : List Deferred} (H : SL w L) (hu : Upd l (.loop r) (.loop { r with state := .busy }) L L') (hr : r.state = .ready)
    (h : ∀ w', SL w' L' → RunsE P ⟨f, some l, ds⟩ R n k e w') : RunsE P ⟨f, some l, ds⟩ R n (.beginRound :: k) e w := .of fun a ha b cs hb hk hro => by
  have hm := H.1 _ hu.mem
  exact .of_steps (.one (stepR_beginRound hro (run_beginRound hm hr))) ((h _ (H.put hu)).run a ha b cs hb hk hro)

/-- A round's end: yield says that it goes on. -/
theorem RunsE.roundEnd [Strm] {l : Nat} {r : Loop} {ds : List Deferred} {K : Value → World → Prop} (H : SL w L) (hu : Upd l (.loop r) (.loop { r with state := .ready, pending := none }) L L')
    (h : ∀ w', SL w' L' → K (.bool true) w') : RunsE P ⟨f, some l, ds⟩ (fun ev w' => ∃ v, ev = .returned v ∧ K v w') n [] e w := .of fun a ha b cs hb hk hro c cs' hcs => by
  have hm := H.1 _ hu.mem
  subst hcs
  exact ⟨.bool true, _, ⟨_, rfl, h _ (H.put hu)⟩, .one (stepR_round_end hro hk (run_endRound none hm))⟩

/-- A return out of a round: yield says that there is no more. -/
theorem RunsE.roundRet [Strm] {l : Nat} {r : Loop} {ds : List Deferred} {K : Value → World → Prop} (H : SL w L) (hu : Upd l (.loop r) (.loop { r with state := .done, pending := some .ret }) L L')
    (h : ∀ w', SL w' L' → K (.bool false) w') : RunsE P ⟨f, some l, ds⟩ (fun ev w' => ∃ v, ev = .returned v ∧ K v w') n (.code .ret :: k) e w := .of fun a ha b cs hb hk hro c cs' hcs => by
  have hm := H.1 _ hu.mem
  subst hcs
  exact ⟨.bool false, _, ⟨_, rfl, h _ (H.put hu)⟩, .one (stepR_round_ret hro hk (run_endRound (some .ret) hm))⟩

/-- A call of yield. -/
theorem ExR.yield [Strm] {l : Nat} {r : Loop} {args : List Operand} {vs : List Value} {ats : Array TypeId} {x : Operand} {ty : TypeId} {K : Value → World → Prop} (H : SL w L) (hm : (l, Obj.loop r) ∈ L)
    (hl : e.vals args = some vs) (hx : e.val x = some (.func (.yield l) #[] #[])) (hs : vs.length = r.params.size)
    (h : Round P l r.fn ((r.params.zip vs.toArray).foldl (fun tmps (t, a) => tmps.setIfInBounds t a) r.tmps) r.assign r.body w K) : ExR P w e (.call ⟨.value x, args.toArray, ats⟩) ty K := .of fun ρ hρ _ _ _ _ => by
  have h1 := Env.vals_map hρ hl
  have hy := run_yield (P := P) (args := vs.toArray) (H.1 _ hm) (by simpa using hs)
  have h3 : (execOp ρ ⟨‹_›, .call ⟨.value x, args.toArray, ats⟩, ty, ‹_›, ‹_›, ‹_›⟩).run P w = .ok (.round l r.fn ((r.params.zip vs.toArray).foldl (fun tmps (t, a) => tmps.setIfInBounds t a) r.tmps) r.assign r.body) w := by
    simp [execOp, resolve, hρ _ _ hx, Deferred.ofValue, invoke, h1, hy]
  rw [h3]
  exact h

/-- Two parameters of a round, laid into the slots. -/
theorem Fits.two {n a b : Nat} {e : Env} {tmps : Array Value} (h : Fits [] n e { tmps := tmps, defers := [] }) (ha : Nat.blt a n = true) (hb : Nat.blt b n = true) (x y : Value) :
    Fits [] n ((b, y) :: (a, x) :: e) { tmps := ((#[a, b] : Array Tmp).zip [x, y].toArray).foldl (fun tmps (t, v) => tmps.setIfInBounds t v) tmps, defers := [] } := by
  have h2 := (h.put ha x).put hb y
  simpa [Act.put] using h2

/-- The record of a range over a function. -/
def recOf (C : Ctx) (tmps : Array Value) (ps : Array Tmp) (assign body : Code) (D : Nat) (st : LoopState) (pe : Option Code) : Loop :=
  { state := st, pending := pe, fn := C.fn, tmps, params := ps, assign, body, defers := D }

/-- The statement. J: what is known behind the iterator, by the jump that a round has left. -/
theorem RunsE.rangeFunc [Strm] {g : Operand} {ps : Array Tmp} {assign body : Code} {gf : FuncId} {lb : Array Value} (J : Option Code → List (Nat × Obj) → Prop) (H : SL w L)
    (hg : e.val g = some (.func (.func gf) #[] lb)) (eg : ∀ args w, (callFunc gf args).run P w = .ok (.enter gf args) w)
    (hit : ∀ (tmps : Array Value) (l D : Nat) (w1 : World), Fits [] n e { tmps := tmps, defers := [] } → SL w1 ((l, .loop (recOf ⟨f, none, []⟩ tmps ps assign body D .ready none)) :: (D, .deferred (some [])) :: L) →
      Does P gf (#[.func (.yield l) #[] #[]] ++ lb) w1 fun _ w2 => ∃ st pe L2, st ≠ .busy ∧ J pe L2 ∧ SL w2 ((l, .loop (recOf ⟨f, none, []⟩ tmps ps assign body D st pe)) :: (D, .deferred (some [])) :: L2))
    (hk : ∀ pe L2 D w3, J pe L2 → SL w3 ((D, .deferred (some [])) :: L2) → RunsE P ⟨f, none, [{ target := .collected D, args := #[] }]⟩ R n ((pe.map Item.code).toList ++ k) e w3) :
    RunsE P ⟨f, none, []⟩ R n (.code (.rangeFunc g ps assign body) :: k) e w := .of fun a ha b cs hb hkd hro => by
  have hds : a.defers = [] := ha.defers
  have he := run_enterLoop_outer (P := P) (w := w) b.fn a.tmps ps assign body
  have hro' : b.roundOf = none := hro
  rw [← hro'] at he
  let w1 : World := (w.alloc (.deferred (some []))).alloc (.loop { state := .ready, pending := none, fn := b.fn, tmps := a.tmps, params := ps, assign, body, defers := w.heap.size })
  have hev : a.eval g = .func (.func gf) #[] lb := ha.eval hg
  have hres : (resolve a.eval (rangeCall g (w.heap.size + 1)) 0).run P w1 = .ok { target := .fn (.func gf) lb, args := #[.func (.yield (w.heap.size + 1)) #[] #[]] } w1 := by
    simp only [resolve, hev]
    simp [go_sem]
  have hinv : (invoke (.fn (.func gf) lb) #[.func (.yield (w.heap.size + 1)) #[] #[]]).run P w1 = .ok (.enter gf (#[.func (.yield (w.heap.size + 1)) #[] #[]] ++ lb)) w1 := by
    simp [invoke, go_sem, eg]
  have hstep := stepR_rangeFunc (P := P) (b := b) (a := a) (k := k) (cs := cs) he hres hinv
  have H1 : SL w1 ((w.heap.size + 1, .loop (recOf ⟨f, none, []⟩ a.tmps ps assign body w.heap.size .ready none)) :: (w.heap.size, .deferred (some [])) :: L) := by
    have h2 := (H.alloc (.deferred (some []))).alloc (.loop { state := .ready, pending := none, fn := b.fn, tmps := a.tmps, params := ps, assign, body, defers := w.heap.size })
    have hfn : b.fn = f := hb
    rw [hfn] at h2
    have e1 : (w.heap.push (Obj.deferred (some []))).size = w.heap.size + 1 := by simp
    rw [show ({ w with heap := w.heap.push (Obj.deferred (some [])) } : World).heap.size = w.heap.size + 1 from e1] at h2
    have hw1 : w1 = { ({ w with heap := w.heap.push (Obj.deferred (some [])) } : World) with heap := ({ w with heap := w.heap.push (Obj.deferred (some [])) } : World).heap.push (.loop { state := .ready, pending := none, fn := f, tmps := a.tmps, params := ps, assign, body, defers := w.heap.size }) } := by
      simp only [w1, hfn]; rfl
    rw [hw1]
    exact h2
  have hfit : Fits [] n e { tmps := a.tmps, defers := [] } := ⟨rfl, ha.size, ha.vals⟩
  obtain ⟨ev, w2, fr, ⟨v, rfl, st, pe, L2, hst, hJ, H2⟩, hsteps, _, hleave⟩ := (hit a.tmps _ _ w1 hfit H1).calls (b.atR { a with defers := [{ target := .collected w.heap.size, args := #[] }] ++ a.defers } (.inRangeFunc (w.heap.size + 1) :: k) :: cs)
  refine .of_steps (.head hstep (hsteps.trans (.one (step_leave_returned hleave)))) ?_
  rw [finish_atR_inRangeFunc]
  have hend := run_endLoop (P := P) (H2.1 _ (.head _)) hst
  refine .of_steps (.one (stepR_endRangeFunc hend)) ?_
  have H3 := (H2.put (o' := .loop { recOf ⟨f, none, []⟩ a.tmps ps assign body w.heap.size st pe with state := .exhausted }) .head).drop
  refine (hk pe L2 _ _ hJ H3).run { a with defers := [{ target := .collected w.heap.size, args := #[] }] ++ a.defers } ⟨by simp [hds], ha.size, ha.vals⟩ b cs hb hkd hro

/-- The statement, its record by a name. -/
theorem RunsE.rangeFuncR [Strm] {g : Operand} {ps : Array Tmp} {assign body : Code} {gf : FuncId} {lb : Array Value} (J : Option Code → List (Nat × Obj) → Prop) (H : SL w L)
    (hg : e.val g = some (.func (.func gf) #[] lb)) (eg : ∀ args w, (callFunc gf args).run P w = .ok (.enter gf args) w)
    (hit : ∀ (r : Loop) (l D : Nat) (w1 : World), r.state = .ready → r.pending = none → r.fn = f → r.params = ps → r.assign = assign → r.body = body → Fits [] n e { tmps := r.tmps, defers := [] } → SL w1 ((l, .loop r) :: (D, .deferred (some [])) :: L) →
      Does P gf (#[.func (.yield l) #[] #[]] ++ lb) w1 fun _ w2 => ∃ st pe L2, st ≠ .busy ∧ J pe L2 ∧ SL w2 ((l, .loop { r with state := st, pending := pe }) :: (D, .deferred (some [])) :: L2))
    (hk : ∀ pe L2 D w3, J pe L2 → SL w3 ((D, .deferred (some [])) :: L2) → RunsE P ⟨f, none, [{ target := .collected D, args := #[] }]⟩ R n ((pe.map Item.code).toList ++ k) e w3) :
    RunsE P ⟨f, none, []⟩ R n (.code (.rangeFunc g ps assign body) :: k) e w :=
  .rangeFunc J H hg eg (fun tmps l D w1 hf H => hit (recOf ⟨f, none, []⟩ tmps ps assign body D .ready none) l D w1 rfl rfl rfl rfl rfl rfl hf H) hk

/-- Two results that lie in memory, one cell each. -/
theorem RunsE.ret2Cells [Strm] {Post : Value → World → Prop} {fn : Func} {t t' : Nat} {ty ty' : TypeId} {v v' : Value} {ad ad' : Addr} (H : SL w L) (hf : P.funcs[f]? = some fn) (hr : fn.results = #[.cell t ty, .cell t' ty'])
    (ht : e.get t = some (.pointer (some ad))) (ht' : e.get t' = some (.pointer (some ad'))) (hp : plainT P ty = true) (hp' : plainT P ty' = true) (hc : Rd L ad v) (hc' : Rd L ad' v') (h : Post (.tuple #[v, v']) w) :
    RunsE P ⟨f, none, []⟩ (fun ev w' => ∃ v, ev = .returned v ∧ Post v w') n (.code .ret :: k) e w := .of fun a ha =>
  .ret hf ha.defers (by
    have h1 := run_loadVar_plain hp (Rd.cell H hc)
    have h2 := run_loadVar_plain hp' (Rd.cell H hc')
    simp [results, hr, ha.vals t _ ht, ha.vals t' _ ht', asAddr, h1, h2]) ⟨_, rfl, h⟩

/-- The same behind a range over a function. -/
theorem RunsE.ret2CellsM [Strm] {Post : Value → World → Prop} {fn : Func} {t t' D : Nat} {ty ty' : TypeId} {v v' : Value} {ad ad' : Addr} (H : SL w L) (hu : Upd D (.deferred (some [])) (.deferred none) L L') (hf : P.funcs[f]? = some fn)
    (hr : fn.results = #[.cell t ty, .cell t' ty'])
    (ht : e.get t = some (.pointer (some ad))) (ht' : e.get t' = some (.pointer (some ad'))) (hp : plainT P ty = true) (hp' : plainT P ty' = true) (hc : Rd L' ad v) (hc' : Rd L' ad' v') (h : ∀ w', SL w' L' → Post (.tuple #[v, v']) w') :
    RunsE P ⟨f, none, [{ target := .collected D, args := #[] }]⟩ (fun ev w' => ∃ v, ev = .returned v ∧ Post v w') n (.code .ret :: k) e w := .of fun a ha => by
  have H' : SL (w.putObj D (.deferred none)) L' := H.put hu
  refine .retMark hf ha.defers (run_takeDeferred (H.1 _ hu.mem)) (v := .tuple #[v, v']) ?_ ⟨_, rfl, h _ H'⟩
  have h1 := run_loadVar_plain hp (Rd.cell H' hc)
  have h2 := run_loadVar_plain hp' (Rd.cell H' hc')
  simp [results, hr, ha.vals t _ ht, ha.vals t' _ ht', asAddr, h1, h2]

end
end Go.Proofs.YtflfaiakenahlaaGreatDoor.V
end

section
/-
  The store of pages: what it is (plain lists), and how it lies in memory.
-/
namespace Go.Proofs.YtflfaiakenahlaaGreatDoor.V

/-- A store: safe pages, the loose writes, the steps that are left, armed, down. -/
structure St where
  P : List (List UInt8)
  Q : List (Nat × List UInt8)
  left : Nat
  armed : Bool
  down : Bool

def St.new (n : Nat) : St := ⟨List.replicate n [], [], 0, false, false⟩
def St.has (s : St) (page : Int) : Bool := decide (0 ≤ page) && decide (page < s.P.length)
def St.step (s : St) : St × Nat := if s.armed = false then (s, 0) else if s.left = 0 then ({ s with down := true, armed := false }, 13) else ({ s with left := s.left - 1 }, 0)
def St.push (s : St) (page : Nat) (bs : List UInt8) : St := { s with Q := s.Q ++ [(page, bs)] }
def St.write (s : St) (page : Int) (bs : List UInt8) : St × Nat := if s.has page = false then (s, 1) else if 4096 < bs.length then (s, 2) else if s.down = true then (s, 13) else (s.push page.toNat bs).step
/-- The pages behind the first n loose writes, of which 'kept' says which are done. -/
def setl (kept : Nat → Bool) (Q : List (Nat × List UInt8)) (P : List (List UInt8)) : Nat → List (List UInt8)
  | 0 => P
  | i + 1 => if kept i then (setl kept Q P i).set (Q.getD i (0, [])).1 (Q.getD i (0, [])).2 else setl kept Q P i
def St.settle (s : St) (kept : Nat → Bool) : St := { s with P := setl kept s.Q s.P s.Q.length, Q := [] }
def St.sync (s : St) : St × Nat := if s.down = true then (s, 13) else if s.step.2 = 0 then (s.step.1.settle fun _ => true, 0) else s.step
def St.start (s : St) (kept : Nat → Bool) : St := { s.settle kept with down := false, armed := false }
def St.arm (s : St) (n : Nat) : St := { s with left := n, armed := true }
/-- The last of the first k writes that is one of page p. -/
def lastW (Q : List (Nat × List UInt8)) (p : Nat) : Nat → Option (List UInt8)
  | 0 => none
  | k + 1 => if (Q.getD k (0, [])).1 = p then some (Q.getD k (0, [])).2 else lastW Q p k
def St.page (s : St) (p : Nat) : List UInt8 := (lastW s.Q p s.Q.length).getD (s.P.getD p [])
/-- What Read hands back: bytes, the error's number. -/
def St.read (s : St) (page : Int) : List UInt8 × Nat := if s.has page = false then ([], 1) else if s.down = true then ([], 13) else (s.page page.toNat, 0)

/-! ### In memory -/

abbrev QE := Nat × Option Addr × Nat × Nat
abbrev gQ (q : QE) : List Value := [.int .i64 (q.1 : Int), .slice q.2.1 q.2.2.1 q.2.2.2]

structure PagesIn (D : List (Nat × Obj)) (pv : List Value) (P : List (List UInt8)) : Prop where
  len : pv.length = P.length
  el : ∀ (i : Nat) v, pv[i]? = some v → Inp D v (P.getD i [])

structure QueueIn (D : List (Nat × Obj)) (ql : List QE) (Q : List (Nat × List UInt8)) : Prop where
  len : ql.length = Q.length
  el : ∀ (i : Nat) q, ql[i]? = some q → q.1 = (Q.getD i (0, [])).1 ∧ Inp D (.slice q.2.1 q.2.2.1 q.2.2.2) (Q.getD i (0, [])).2

structure St.Ok (s : St) : Prop where
  pages : s.P.length ≤ 4096
  psz : ∀ p ∈ s.P, p.length ≤ 4096
  qpg : ∀ q ∈ s.Q, q.1 < s.P.length
  qsz : ∀ q ∈ s.Q, q.2.length ≤ 4096
  left : s.left ≤ 9223372036854775807

/-- The store s, at the block b: its blocks. -/
inductive Hold (TS TP TQ : TypeId) (b : Nat) (s : St) : List (Nat × Obj) → Prop where
  | mk (rb : Nat) (pv : List Value) (qv : Value) (ql : List QE) (Bq D : List (Nat × Obj)) (hp : PagesIn D pv s.P) (hq : Slc gQ 2 TQ qv ql Bq) (hQ : QueueIn D ql s.Q) (ok : s.Ok) :
    Hold TS TP TQ b s ((b, .cells #[.slice (some ⟨rb, 0, none⟩) s.P.length s.P.length, qv, .int .i64 (s.left : Int), .bool s.armed, .bool s.down] TS (0, 0)) :: (rb, .cells pv.toArray TP (0, 0)) :: (Bq ++ D))

theorem getD_mem {α : Type} {l : List α} {i : Nat} {d : α} (h : i < l.length) : l.getD i d ∈ l := by
  rw [List.getD_eq_getElem?_getD, List.getElem?_eq_getElem h]
  exact List.getElem_mem h

theorem setl_len {kept : Nat → Bool} {Q : List (Nat × List UInt8)} {P : List (List UInt8)} : ∀ i, (setl kept Q P i).length = P.length
  | 0 => rfl
  | i + 1 => by
    unfold setl
    split
    · rw [List.length_set, setl_len i]
    · exact setl_len i

theorem setl_sz {kept : Nat → Bool} {Q : List (Nat × List UInt8)} {P : List (List UInt8)} (hP : ∀ p ∈ P, p.length ≤ 4096) (hQ : ∀ q ∈ Q, q.2.length ≤ 4096) : ∀ i, i ≤ Q.length → ∀ p ∈ setl kept Q P i, p.length ≤ 4096
  | 0, _, p, hp => hP p hp
  | i + 1, hi, p, hp => by
    unfold setl at hp
    split at hp
    · rcases List.mem_or_eq_of_mem_set hp with h | h
      · exact setl_sz hP hQ i (by omega) p h
      · subst h; exact hQ _ (getD_mem (by omega))
    · exact setl_sz hP hQ i (by omega) p hp

theorem St.step_ok {s : St} (h : s.Ok) : s.step.1.Ok := by
  unfold St.step
  split
  · exact h
  split
  · exact ⟨h.1, h.2, h.3, h.4, h.5⟩
  · exact ⟨h.1, h.2, h.3, h.4, by have := h.5; simp only; omega⟩

theorem St.push_ok {s : St} (h : s.Ok) {page : Nat} {bs : List UInt8} (h1 : page < s.P.length) (h2 : bs.length ≤ 4096) : (s.push page bs).Ok := by
  refine ⟨h.1, h.2, fun q hq => ?_, fun q hq => ?_, h.5⟩
  · rcases List.mem_append.1 hq with hq | hq
    · exact h.3 q hq
    · obtain rfl := List.mem_singleton.1 hq; exact h1
  · rcases List.mem_append.1 hq with hq | hq
    · exact h.4 q hq
    · obtain rfl := List.mem_singleton.1 hq; exact h2

theorem St.settle_ok {s : St} (h : s.Ok) (kept : Nat → Bool) : (s.settle kept).Ok :=
  ⟨by simp only [St.settle, setl_len]; exact h.1, setl_sz h.2 h.4 _ (Nat.le_refl _), by simp [St.settle], by simp [St.settle], h.5⟩

theorem St.new_ok {n : Nat} (h : n ≤ 4096) : (St.new n).Ok :=
  ⟨by simpa [St.new] using h, by intro p hp; simp only [St.new] at hp; rw [(List.mem_replicate.1 hp).2]; simp, by simp [St.new], by simp [St.new], by simp [St.new]⟩

/-! ### Errors -/

/-- An error, by its number; the type T. -/
def ErrV (T : TypeId) : Nat → Value
  | 0 => .nilIface
  | n + 1 => .iface T (.int .i64 ((n + 1 : Nat) : Int))

theorem QueueIn.sub {D D' : List (Nat × Obj)} {ql : List QE} {Q : List (Nat × List UInt8)} (h : QueueIn D ql Q) (hs : ∀ p ∈ D, p ∈ D') : QueueIn D' ql Q :=
  ⟨h.len, fun i q hi => ⟨(h.el i q hi).1, (h.el i q hi).2.sub hs⟩⟩

theorem PagesIn.sub {D D' : List (Nat × Obj)} {pv : List Value} {P : List (List UInt8)} (h : PagesIn D pv P) (hs : ∀ p ∈ D, p ∈ D') : PagesIn D' pv P :=
  ⟨h.len, fun i v hi => (h.el i v hi).sub hs⟩

theorem QueueIn.push {D : List (Nat × Obj)} {ql : List QE} {Q : List (Nat × List UInt8)} (h : QueueIn D ql Q) {q : QE} {bs : List UInt8} (hb : Inp D (.slice q.2.1 q.2.2.1 q.2.2.2) bs) : QueueIn D (ql ++ [q]) (Q ++ [(q.1, bs)]) := by
  refine ⟨by simp [h.len], fun i q' hi => ?_⟩
  rcases Nat.lt_or_ge i ql.length with hlt | hge
  · rw [List.getElem?_append_left hlt] at hi
    have := h.el i q' hi
    rw [h.len] at hlt
    simpa [List.getD_eq_getElem?_getD, List.getElem?_append_left hlt] using this
  · rw [List.getElem?_append_right hge] at hi
    have hi0 : i - ql.length = 0 := by
      rcases Nat.eq_zero_or_pos (i - ql.length) with h | h
      · exact h
      · rw [List.getElem?_eq_none (by simp; omega)] at hi; cases hi
    rw [hi0] at hi
    simp at hi
    subst hi
    have hil : i = Q.length := by have := h.len; omega
    subst hil
    simpa [List.getD_eq_getElem?_getD] using hb

theorem PagesIn.set {D : List (Nat × Obj)} {pv : List Value} {P : List (List UInt8)} (h : PagesIn D pv P) {p : Nat} {v : Value} {bs : List UInt8} (hv : Inp D v bs) (hp : p < P.length) : PagesIn D (pv.set p v) (P.set p bs) := by
  refine ⟨by simp [h.len], fun i u hi => ?_⟩
  have hpl : p < pv.length := by rw [h.len]; exact hp
  by_cases hip : p = i
  · subst hip
    rw [List.getElem?_set_self hpl] at hi
    cases hi
    simpa [List.getD_eq_getElem?_getD, hp] using hv
  · rw [List.getElem?_set_ne hip] at hi
    have := h.el i u hi
    simpa [List.getD_eq_getElem?_getD, List.getElem?_set_ne hip] using this

section
variable {w : World} {x y : Nat × Obj} {B Bq D F : List (Nat × Obj)}
theorem SL.pull2 [Strm] (h : SL w (x :: y :: ((B ++ D) ++ F))) : SL w (B ++ (x :: y :: (D ++ F))) := h.perm (by
  rw [List.append_assoc]
  exact List.perm_middle.trans (List.Perm.cons _ List.perm_middle))
theorem SL.push2 [Strm] (h : SL w (B ++ (x :: y :: (D ++ F)))) : SL w (x :: y :: ((B ++ D) ++ F)) := h.perm (by
  rw [List.append_assoc]
  exact (List.perm_middle.trans (List.Perm.cons _ List.perm_middle)).symm)
theorem SL.unmid2 [Strm] (h : SL w (B ++ (x :: y :: F))) : SL w (x :: y :: (B ++ F)) := h.perm (List.perm_middle.trans (List.Perm.cons _ List.perm_middle)).symm
theorem SL.unmid3 [Strm] {z : Nat × Obj} (h : SL w (B ++ (x :: y :: z :: F))) : SL w (x :: y :: z :: (B ++ F)) :=
  h.perm (List.perm_middle.trans (List.Perm.cons _ (List.perm_middle.trans (List.Perm.cons _ List.perm_middle)))).symm
theorem SL.pullW [Strm] (h : SL w (B ++ (x :: y :: ((Bq ++ D) ++ F)))) : SL w (Bq ++ (x :: y :: ((B ++ D) ++ F))) := h.perm (by
  refine (List.perm_middle.trans (List.Perm.cons _ List.perm_middle)).trans (List.Perm.trans ?_ (List.perm_middle.trans (List.Perm.cons _ List.perm_middle)).symm)
  refine List.Perm.cons _ (List.Perm.cons _ ?_)
  simp only [List.append_assoc]
  rw [← List.append_assoc Bq, ← List.append_assoc B]
  exact List.perm_append_comm.append_right _)
end

theorem queue_at {ql : List QE} {sp : List Value} {i : Nat} {q : QE} (hi : ql[i]? = some q) : ∀ (j : Nat) v, (gQ q)[j]? = some v → (ql.flatMap gQ ++ sp)[i * 2 + j]? = some v := fun j v hj => by
  have hlt : i < ql.length := by
    rcases Nat.lt_or_ge i ql.length with h | h
    · exact h
    · rw [List.getElem?_eq_none h] at hi; cases hi
  have hj2 : j < 2 := by
    rcases Nat.lt_or_ge j 2 with h | h
    · exact h
    · rw [List.getElem?_eq_none (by simpa using h)] at hj; cases hj
  have hl := flatMap_length (g := gQ) (sz := 2) (fun _ => rfl) ql
  rw [List.getElem?_append_left (by rw [hl]; omega), flatMap_get (g := gQ) (sz := 2) (fun _ => rfl) ql i j q hi hj2]
  exact hj

end Go.Proofs.YtflfaiakenahlaaGreatDoor.V
end

section
/-
  The store's small functions: Clone, New, Pages, is, Loose, steps.
-/
namespace Go.Proofs.YtflfaiakenahlaaGreatDoor
open Go.Proofs.YtflfaiakenahlaaGreatDoor.V

abbrev HoldS (b : Nat) (s : St) (A : List (Nat × Obj)) : Prop := Hold 75 29 79 b s A
abbrev EV (n : Nat) : Value := ErrV 72 n

theorem clone_spec [Strm] (v : Value) (bs : List UInt8) (hb : bs.length ≤ 140737488355328) (w : World) (F : List (Nat × Obj)) (hv : Inp F v bs) (H : SL w F) :
    Does Tryz.prog 31 #[v] w fun r w' => ∃ B, Slc gB 1 5 r bs B ∧ SL w' (B ++ F) := by
  obtain ⟨a, c, rfl, hc⟩ := hv.len
  refine Does.intro (args := [_]) (e := [(0, _)]) Tryz.func31 rfl Tryz.ntmps31 rfl rfl ?_
  repeat (first | refine .seq ?_ | refine .skip ?_ | refine .block ?_ | refine .inBlock ?_ | refine .yes rfl ?_ | refine .no rfl ?_ | refine .exit rfl ?_)
  cases a with
  | none =>
    obtain rfl := hv.none_eq
    repeat (first | refine .seq ?_ | refine .skip ?_ | refine .block ?_ | refine .inBlock ?_ | refine .yes rfl ?_ | refine .no rfl ?_ | refine .exit rfl ?_)
    refine RunsE.region ?_
    refine OpsE.ev (Ev.assign rfl) rfl ?_
    refine OpsE.nil ?_
    repeat (first | refine .seq ?_ | refine .skip ?_ | refine .block ?_ | refine .inBlock ?_ | refine .yes rfl ?_ | refine .no rfl ?_ | refine .exit rfl ?_)
    refine RunsE.region ?_
    refine OpsE.ev (Ev.move rfl) rfl ?_
    refine OpsE.ev (Ev.slNilEq (a := none) rfl rfl Tryz.underlying29) rfl ?_
    refine OpsE.nil ?_
    repeat (first | refine .seq ?_ | refine .skip ?_ | refine .block ?_ | refine .inBlock ?_ | refine .yes rfl ?_ | refine .no rfl ?_ | refine .exit rfl ?_)
    refine RunsE.region ?_
    refine OpsE.ev (Ev.assign rfl) rfl ?_
    refine OpsE.nil ?_
    repeat (first | refine .seq ?_ | refine .skip ?_ | refine .block ?_ | refine .inBlock ?_ | refine .yes rfl ?_ | refine .no rfl ?_ | refine .exit rfl ?_)
    exact RunsE.ret1 Tryz.func31 rfl rfl ⟨[], .nil, H⟩
  | some a =>
    repeat (first | refine .seq ?_ | refine .skip ?_ | refine .block ?_ | refine .inBlock ?_ | refine .yes rfl ?_ | refine .no rfl ?_ | refine .exit rfl ?_)
    refine RunsE.region ?_
    refine OpsE.ev (Ev.assign rfl) rfl ?_
    refine OpsE.nil ?_
    repeat (first | refine .seq ?_ | refine .skip ?_ | refine .block ?_ | refine .inBlock ?_ | refine .yes rfl ?_ | refine .no rfl ?_ | refine .exit rfl ?_)
    refine RunsE.region ?_
    refine OpsE.ev (Ev.move rfl) rfl ?_
    refine OpsE.ev (Ev.slNilEq (a := some a) rfl rfl Tryz.underlying29) rfl ?_
    refine OpsE.nil ?_
    repeat (first | refine .seq ?_ | refine .skip ?_ | refine .block ?_ | refine .inBlock ?_ | refine .yes rfl ?_ | refine .no rfl ?_ | refine .exit rfl ?_)
    refine RunsE.region ?_
    refine OpsE.ex (Ex.buildSl0 (sz := 1) (T := 5) H (by kernel_rfl)) rfl ?_; (try clear H); rintro _ w ⟨b5, rfl, H⟩
    refine OpsE.ev (Ev.move rfl) rfl ?_
    refine OpsE.ex (Ex.append (g := gB) (by_ := 1) (zv := .int .u8 0) (xs := []) (ys := bs) (B := [(b5, .cells #[] 5 (0, 0))]) H rfl rfl (Slc.lit0 b5) (Inp.src H hv.tail) (fun _ => rfl) (by simp [Value.oneCell']) (by kernel_rfl) (by kernel_rfl) (by kernel_rfl) (by kernel_rfl) rfl (by simp only [List.length_nil]; omega) (by simp only [List.length_nil]; omega)) rfl ?_; (try clear H); rintro v' w ⟨B, hs, H⟩
    refine OpsE.ev (Ev.assign rfl) rfl ?_
    refine OpsE.nil ?_
    repeat (first | refine .seq ?_ | refine .skip ?_ | refine .block ?_ | refine .inBlock ?_ | refine .yes rfl ?_ | refine .no rfl ?_ | refine .exit rfl ?_)
    exact RunsE.ret1 Tryz.func31 rfl rfl ⟨B, hs, H⟩

theorem new_bad [Strm] (n : Int) (hn : n < 1 ∨ 4096 < n) (w : World) (F : List (Nat × Obj)) (H : SL w F) :
    Does Tryz.prog 9 #[.int .i64 n] w fun r w' => r = .tuple #[.pointer none, EV 1] ∧ SL w' F := by
  refine Does.intro (args := [_]) (e := [(0, _)]) Tryz.func9 rfl Tryz.ntmps9 rfl rfl ?_
  repeat (first | refine .seq ?_ | refine .skip ?_ | refine .block ?_ | refine .inBlock ?_ | refine .yes rfl ?_ | refine .no rfl ?_ | refine .exit rfl ?_)
  repeat (first | refine .seq ?_ | refine .skip ?_ | refine .block ?_ | refine .inBlock ?_ | refine .yes rfl ?_ | refine .no rfl ?_ | refine .exit rfl ?_)
  refine RunsE.region ?_
  refine OpsE.ev (Ev.assign rfl) rfl ?_
  refine OpsE.ev (Ev.assign rfl) rfl ?_
  refine OpsE.nil ?_
  by_cases h1 : n < 1
  ·
    repeat (first | refine .seq ?_ | refine .skip ?_ | refine .block ?_ | refine .inBlock ?_ | refine .yes rfl ?_ | refine .no rfl ?_ | refine .exit rfl ?_)
    refine RunsE.region ?_
    refine OpsE.ev (Ev.move rfl) rfl ?_
    refine OpsE.ev (Ev.lss (r := true) rfl rfl (decide_eq_true h1)) rfl ?_
    refine OpsE.ev (Ev.move rfl) rfl ?_
    first | (refine OpsE.yes rfl rfl ?_; refine OpsE.ev (Ev.move rfl) rfl ?_) | refine OpsE.no rfl rfl rfl ?_ | refine OpsE.off rfl rfl rfl ?_
    first | (refine OpsE.yes rfl rfl ?_; refine OpsE.ev (Ev.gtr rfl rfl) rfl ?_) | refine OpsE.no rfl rfl rfl ?_ | refine OpsE.off rfl rfl rfl ?_
    refine OpsE.ev ((by first | exact Ev.pickT rfl rfl | exact Ev.pickF rfl rfl)) rfl ?_
    refine OpsE.nil ?_
    repeat (first | refine .seq ?_ | refine .skip ?_ | refine .block ?_ | refine .inBlock ?_ | refine .yes rfl ?_ | refine .no rfl ?_ | refine .exit rfl ?_)
    refine RunsE.region ?_
    refine OpsE.ev (Ev.makeInterface (d := (.int .i64)) rfl (by kernel_rfl) rfl) rfl ?_
    refine OpsE.ev (Ev.assign rfl) rfl ?_
    refine OpsE.ev (Ev.assign rfl) rfl ?_
    refine OpsE.nil ?_
    repeat (first | refine .seq ?_ | refine .skip ?_ | refine .block ?_ | refine .inBlock ?_ | refine .yes rfl ?_ | refine .no rfl ?_ | refine .exit rfl ?_)
    exact RunsE.ret2 Tryz.func9 rfl rfl rfl ⟨rfl, H⟩
  ·
    repeat (first | refine .seq ?_ | refine .skip ?_ | refine .block ?_ | refine .inBlock ?_ | refine .yes rfl ?_ | refine .no rfl ?_ | refine .exit rfl ?_)
    refine RunsE.region ?_
    refine OpsE.ev (Ev.move rfl) rfl ?_
    refine OpsE.ev (Ev.lss (r := false) rfl rfl (decide_eq_false h1)) rfl ?_
    refine OpsE.ev (Ev.move rfl) rfl ?_
    first | (refine OpsE.yes rfl rfl ?_; refine OpsE.ev (Ev.move rfl) rfl ?_) | refine OpsE.no rfl rfl rfl ?_ | refine OpsE.off rfl rfl rfl ?_
    first | (refine OpsE.yes rfl rfl ?_; refine OpsE.ev (Ev.gtr (r := true) rfl rfl (decide_eq_true (by omega))) rfl ?_) | refine OpsE.no rfl rfl rfl ?_ | refine OpsE.off rfl rfl rfl ?_
    refine OpsE.ev ((by first | exact Ev.pickT rfl rfl | exact Ev.pickF rfl rfl)) rfl ?_
    refine OpsE.nil ?_
    repeat (first | refine .seq ?_ | refine .skip ?_ | refine .block ?_ | refine .inBlock ?_ | refine .yes rfl ?_ | refine .no rfl ?_ | refine .exit rfl ?_)
    refine RunsE.region ?_
    refine OpsE.ev (Ev.makeInterface (d := (.int .i64)) rfl (by kernel_rfl) rfl) rfl ?_
    refine OpsE.ev (Ev.assign rfl) rfl ?_
    refine OpsE.ev (Ev.assign rfl) rfl ?_
    refine OpsE.nil ?_
    repeat (first | refine .seq ?_ | refine .skip ?_ | refine .block ?_ | refine .inBlock ?_ | refine .yes rfl ?_ | refine .no rfl ?_ | refine .exit rfl ?_)
    exact RunsE.ret2 Tryz.func9 rfl rfl rfl ⟨rfl, H⟩

theorem new_spec [Strm] (n : Nat) (h1 : 1 ≤ n) (h2 : n ≤ 4096) (w : World) (F : List (Nat × Obj)) (H : SL w F) :
    Does Tryz.prog 9 #[.int .i64 (n : Int)] w fun r w' => ∃ b A, r = .tuple #[.pointer (some ⟨b, 0, none⟩), .nilIface] ∧ HoldS b (St.new n) A ∧ SL w' (A ++ F) := by
  refine Does.intro (args := [_]) (e := [(0, _)]) Tryz.func9 rfl Tryz.ntmps9 rfl rfl ?_
  repeat (first | refine .seq ?_ | refine .skip ?_ | refine .block ?_ | refine .inBlock ?_ | refine .yes rfl ?_ | refine .no rfl ?_ | refine .exit rfl ?_)
  repeat (first | refine .seq ?_ | refine .skip ?_ | refine .block ?_ | refine .inBlock ?_ | refine .yes rfl ?_ | refine .no rfl ?_ | refine .exit rfl ?_)
  refine RunsE.region ?_
  refine OpsE.ev (Ev.assign rfl) rfl ?_
  refine OpsE.ev (Ev.assign rfl) rfl ?_
  refine OpsE.nil ?_
  repeat (first | refine .seq ?_ | refine .skip ?_ | refine .block ?_ | refine .inBlock ?_ | refine .yes rfl ?_ | refine .no rfl ?_ | refine .exit rfl ?_)
  refine RunsE.region ?_
  refine OpsE.ev (Ev.move rfl) rfl ?_
  refine OpsE.ev (Ev.lss (r := false) rfl rfl (decide_eq_false (by omega))) rfl ?_
  refine OpsE.ev (Ev.move rfl) rfl ?_
  first | (refine OpsE.yes rfl rfl ?_; refine OpsE.ev (Ev.move rfl) rfl ?_) | refine OpsE.no rfl rfl rfl ?_ | refine OpsE.off rfl rfl rfl ?_
  first | (refine OpsE.yes rfl rfl ?_; refine OpsE.ev (Ev.gtr (r := false) rfl rfl (decide_eq_false (by omega))) rfl ?_) | refine OpsE.no rfl rfl rfl ?_ | refine OpsE.off rfl rfl rfl ?_
  refine OpsE.ev ((by first | exact Ev.pickT rfl rfl | exact Ev.pickF rfl rfl)) rfl ?_
  refine OpsE.nil ?_
  repeat (first | refine .seq ?_ | refine .skip ?_ | refine .block ?_ | refine .inBlock ?_ | refine .yes rfl ?_ | refine .no rfl ?_ | refine .exit rfl ?_)
  refine RunsE.region ?_
  refine OpsE.ev (Ev.move rfl) rfl ?_
  refine OpsE.ex (Ex.makeSl (T := 29) (zv := .slice none 0 0) (by_ := 24) H rfl rfl (by kernel_rfl) (by kernel_rfl) (by kernel_rfl) rfl (by omega) (by omega) (by omega)) rfl ?_; (try clear H); rintro _ w ⟨b12, rfl, H⟩
  refine OpsE.ev (Ev.buildSt (pl := [(0, 1), (1, 1), (2, 1), (3, 1), (4, 1)]) (zv := .agg #[.slice none 0 0, .slice none 0 0, .int .i64 0, .bool false, .bool false]) rfl (by kernel_rfl) (by kernel_rfl) rfl) rfl ?_
  refine OpsE.ex (Ex.box H rfl) rfl ?_; (try clear H); rintro _ w ⟨b14, rfl, H⟩; simp only [Value.cells] at H
  refine OpsE.ev (Ev.assign rfl) rfl ?_
  refine OpsE.ev (Ev.assign rfl) rfl ?_
  refine OpsE.nil ?_
  repeat (first | refine .seq ?_ | refine .skip ?_ | refine .block ?_ | refine .inBlock ?_ | refine .yes rfl ?_ | refine .no rfl ?_ | refine .exit rfl ?_)
  refine RunsE.ret2 Tryz.func9 rfl rfl rfl ⟨b14, _, rfl, .mk b12 (List.replicate n (.slice none 0 0)) (.slice none 0 0) [] [] [] ⟨by simp [St.new], fun i v hv => ?_⟩ .nil ⟨rfl, fun i q hq => by simp at hq⟩ (St.new_ok h2), ?_⟩
  · have hlt : i < n := by
      rcases Nat.lt_or_ge i n with h | h
      · exact h
      · rw [List.getElem?_eq_none (by simpa using h)] at hv; cases hv
    have hv' : v = .slice none 0 0 := by simpa [hlt] using hv.symm
    subst hv'
    simp only [St.new, List.getD_eq_getElem?_getD, List.getElem?_replicate, hlt, if_true, Option.getD_some]
    exact .nil
  · simp only [St.new, List.length_replicate, List.cons_append, List.nil_append]
    exact H

theorem npages_spec [Strm] (w : World) (F : List (Nat × Obj)) (H : SL w F) : Does Tryz.prog 66 #[.pointer none] w fun r w' => r = .int .i64 0 ∧ SL w' F := by
  refine Does.intro (args := [_]) (e := [(0, _)]) Tryz.func66 rfl Tryz.ntmps66 rfl rfl ?_
  repeat (first | refine .seq ?_ | refine .skip ?_ | refine .block ?_ | refine .inBlock ?_ | refine .yes rfl ?_ | refine .no rfl ?_ | refine .exit rfl ?_)
  repeat (first | refine .seq ?_ | refine .skip ?_ | refine .block ?_ | refine .inBlock ?_ | refine .yes rfl ?_ | refine .no rfl ?_ | refine .exit rfl ?_)
  refine RunsE.region ?_
  refine OpsE.ev (Ev.assign rfl) rfl ?_
  refine OpsE.nil ?_
  repeat (first | refine .seq ?_ | refine .skip ?_ | refine .block ?_ | refine .inBlock ?_ | refine .yes rfl ?_ | refine .no rfl ?_ | refine .exit rfl ?_)
  refine RunsE.region ?_
  refine OpsE.ev (Ev.move rfl) rfl ?_
  refine OpsE.ev (Ev.ptrNilEq (el := 75) rfl rfl (by kernel_rfl)) rfl ?_
  refine OpsE.nil ?_
  repeat (first | refine .seq ?_ | refine .skip ?_ | refine .block ?_ | refine .inBlock ?_ | refine .yes rfl ?_ | refine .no rfl ?_ | refine .exit rfl ?_)
  refine RunsE.region ?_
  refine OpsE.ev (Ev.assign rfl) rfl ?_
  refine OpsE.nil ?_
  repeat (first | refine .seq ?_ | refine .skip ?_ | refine .block ?_ | refine .inBlock ?_ | refine .yes rfl ?_ | refine .no rfl ?_ | refine .exit rfl ?_)
  exact RunsE.ret1 Tryz.func66 rfl rfl ⟨rfl, H⟩

theorem pages_spec [Strm] (s : St) (b : Nat) (A : List (Nat × Obj)) (w : World) (F : List (Nat × Obj)) (hA : HoldS b s A) (H : SL w (A ++ F)) :
    Does Tryz.prog 66 #[.pointer (some ⟨b, 0, none⟩)] w fun r w' => r = .int .i64 (s.P.length : Int) ∧ SL w' (A ++ F) := by
  obtain ⟨rb, pv, qv, ql, Bq, D, hp, hq, hQ, ok⟩ := hA
  rw [List.cons_append] at H ⊢
  refine Does.intro (args := [_]) (e := [(0, _)]) Tryz.func66 rfl Tryz.ntmps66 rfl rfl ?_
  repeat (first | refine .seq ?_ | refine .skip ?_ | refine .block ?_ | refine .inBlock ?_ | refine .yes rfl ?_ | refine .no rfl ?_ | refine .exit rfl ?_)
  repeat (first | refine .seq ?_ | refine .skip ?_ | refine .block ?_ | refine .inBlock ?_ | refine .yes rfl ?_ | refine .no rfl ?_ | refine .exit rfl ?_)
  refine RunsE.region ?_
  refine OpsE.ev (Ev.assign rfl) rfl ?_
  refine OpsE.nil ?_
  repeat (first | refine .seq ?_ | refine .skip ?_ | refine .block ?_ | refine .inBlock ?_ | refine .yes rfl ?_ | refine .no rfl ?_ | refine .exit rfl ?_)
  refine RunsE.region ?_
  refine OpsE.ev (Ev.move rfl) rfl ?_
  refine OpsE.ev (Ev.ptrNilEq (el := 75) rfl rfl (by kernel_rfl)) rfl ?_
  refine OpsE.nil ?_
  repeat (first | refine .seq ?_ | refine .skip ?_ | refine .block ?_ | refine .inBlock ?_ | refine .yes rfl ?_ | refine .no rfl ?_ | refine .exit rfl ?_)
  refine RunsE.region ?_
  refine OpsE.ev (Ev.move rfl) rfl ?_
  refine OpsE.ev (Ev.nilCheck rfl) rfl ?_
  refine OpsE.ev (Ev.fieldAddr (o := 0) rfl (by kernel_rfl)) rfl ?_
  refine OpsE.ev (Ev.load H rfl (by kernel_rfl) (by first | exact Rd.mk m0 rfl | exact Rd.mk m1 rfl | exact Rd.mk m2 rfl | exact Rd.mk m3 rfl | assumption)) rfl ?_
  refine OpsE.ev (Ev.lenSl (d := 29) rfl rfl (by kernel_rfl)) rfl ?_
  refine OpsE.ev (Ev.assign rfl) rfl ?_
  refine OpsE.nil ?_
  repeat (first | refine .seq ?_ | refine .skip ?_ | refine .block ?_ | refine .inBlock ?_ | refine .yes rfl ?_ | refine .no rfl ?_ | refine .exit rfl ?_)
  exact RunsE.ret1 Tryz.func66 rfl rfl ⟨rfl, H⟩

theorem nloose_spec [Strm] (w : World) (F : List (Nat × Obj)) (H : SL w F) : Does Tryz.prog 22 #[.pointer none] w fun r w' => r = .int .i64 0 ∧ SL w' F := by
  refine Does.intro (args := [_]) (e := [(0, _)]) Tryz.func22 rfl Tryz.ntmps22 rfl rfl ?_
  repeat (first | refine .seq ?_ | refine .skip ?_ | refine .block ?_ | refine .inBlock ?_ | refine .yes rfl ?_ | refine .no rfl ?_ | refine .exit rfl ?_)
  repeat (first | refine .seq ?_ | refine .skip ?_ | refine .block ?_ | refine .inBlock ?_ | refine .yes rfl ?_ | refine .no rfl ?_ | refine .exit rfl ?_)
  refine RunsE.region ?_
  refine OpsE.ev (Ev.assign rfl) rfl ?_
  refine OpsE.nil ?_
  repeat (first | refine .seq ?_ | refine .skip ?_ | refine .block ?_ | refine .inBlock ?_ | refine .yes rfl ?_ | refine .no rfl ?_ | refine .exit rfl ?_)
  refine RunsE.region ?_
  refine OpsE.ev (Ev.move rfl) rfl ?_
  refine OpsE.ev (Ev.ptrNilEq (el := 75) rfl rfl (by kernel_rfl)) rfl ?_
  refine OpsE.nil ?_
  repeat (first | refine .seq ?_ | refine .skip ?_ | refine .block ?_ | refine .inBlock ?_ | refine .yes rfl ?_ | refine .no rfl ?_ | refine .exit rfl ?_)
  refine RunsE.region ?_
  refine OpsE.ev (Ev.assign rfl) rfl ?_
  refine OpsE.nil ?_
  repeat (first | refine .seq ?_ | refine .skip ?_ | refine .block ?_ | refine .inBlock ?_ | refine .yes rfl ?_ | refine .no rfl ?_ | refine .exit rfl ?_)
  exact RunsE.ret1 Tryz.func22 rfl rfl ⟨rfl, H⟩

theorem loose_spec [Strm] (s : St) (b : Nat) (A : List (Nat × Obj)) (w : World) (F : List (Nat × Obj)) (hA : HoldS b s A) (H : SL w (A ++ F)) :
    Does Tryz.prog 22 #[.pointer (some ⟨b, 0, none⟩)] w fun r w' => r = .int .i64 (s.Q.length : Int) ∧ SL w' (A ++ F) := by
  obtain ⟨rb, pv, qv, ql, Bq, D, hp, hq, hQ, ok⟩ := hA
  obtain ⟨aq, cq, rfl⟩ := hq.len
  rw [List.cons_append] at H ⊢
  refine Does.intro (args := [_]) (e := [(0, _)]) Tryz.func22 rfl Tryz.ntmps22 rfl rfl ?_
  repeat (first | refine .seq ?_ | refine .skip ?_ | refine .block ?_ | refine .inBlock ?_ | refine .yes rfl ?_ | refine .no rfl ?_ | refine .exit rfl ?_)
  repeat (first | refine .seq ?_ | refine .skip ?_ | refine .block ?_ | refine .inBlock ?_ | refine .yes rfl ?_ | refine .no rfl ?_ | refine .exit rfl ?_)
  refine RunsE.region ?_
  refine OpsE.ev (Ev.assign rfl) rfl ?_
  refine OpsE.nil ?_
  repeat (first | refine .seq ?_ | refine .skip ?_ | refine .block ?_ | refine .inBlock ?_ | refine .yes rfl ?_ | refine .no rfl ?_ | refine .exit rfl ?_)
  refine RunsE.region ?_
  refine OpsE.ev (Ev.move rfl) rfl ?_
  refine OpsE.ev (Ev.ptrNilEq (el := 75) rfl rfl (by kernel_rfl)) rfl ?_
  refine OpsE.nil ?_
  repeat (first | refine .seq ?_ | refine .skip ?_ | refine .block ?_ | refine .inBlock ?_ | refine .yes rfl ?_ | refine .no rfl ?_ | refine .exit rfl ?_)
  refine RunsE.region ?_
  refine OpsE.ev (Ev.move rfl) rfl ?_
  refine OpsE.ev (Ev.nilCheck rfl) rfl ?_
  refine OpsE.ev (Ev.fieldAddr (o := 1) rfl (by kernel_rfl)) rfl ?_
  refine OpsE.ev (Ev.load H rfl (by kernel_rfl) (by first | exact Rd.mk m0 rfl | exact Rd.mk m1 rfl | exact Rd.mk m2 rfl | exact Rd.mk m3 rfl | assumption)) rfl ?_
  refine OpsE.ev (Ev.lenSl (d := 79) rfl rfl (by kernel_rfl)) rfl ?_
  refine OpsE.ev (Ev.assign rfl) rfl ?_
  refine OpsE.nil ?_
  repeat (first | refine .seq ?_ | refine .skip ?_ | refine .block ?_ | refine .inBlock ?_ | refine .yes rfl ?_ | refine .no rfl ?_ | refine .exit rfl ?_)
  exact RunsE.ret1 Tryz.func22 rfl rfl ⟨by rw [hQ.len], H⟩

theorem nis_spec [Strm] (page : Int) (w : World) (F : List (Nat × Obj)) (H : SL w F) : Does Tryz.prog 30 #[.pointer none, .int .i64 page] w fun r w' => r = .bool false ∧ SL w' F := by
  refine Does.intro (args := [_, _]) (e := [(0, _), (1, _)]) Tryz.func30 rfl Tryz.ntmps30 rfl rfl ?_
  repeat (first | refine .seq ?_ | refine .skip ?_ | refine .block ?_ | refine .inBlock ?_ | refine .yes rfl ?_ | refine .no rfl ?_ | refine .exit rfl ?_)
  repeat (first | refine .seq ?_ | refine .skip ?_ | refine .block ?_ | refine .inBlock ?_ | refine .yes rfl ?_ | refine .no rfl ?_ | refine .exit rfl ?_)
  refine RunsE.region ?_
  refine OpsE.ev (Ev.assign rfl) rfl ?_
  refine OpsE.nil ?_
  by_cases h0 : 0 ≤ page
  ·
    repeat (first | refine .seq ?_ | refine .skip ?_ | refine .block ?_ | refine .inBlock ?_ | refine .yes rfl ?_ | refine .no rfl ?_ | refine .exit rfl ?_)
    refine RunsE.region ?_
    refine OpsE.ev (Ev.move rfl) rfl ?_
    refine OpsE.ev (Ev.geq (r := true) rfl rfl (decide_eq_true h0)) rfl ?_
    refine OpsE.ev (Ev.move rfl) rfl ?_
    first | (refine OpsE.yes rfl rfl ?_; refine OpsE.ev (Ev.move rfl) rfl ?_) | refine OpsE.no rfl rfl rfl ?_ | refine OpsE.off rfl rfl rfl ?_
    first | (refine OpsE.yes rfl rfl ?_; refine OpsE.ev (Ev.move rfl) rfl ?_) | refine OpsE.no rfl rfl rfl ?_ | refine OpsE.off rfl rfl rfl ?_
    first | (refine OpsE.yes rfl rfl ?_; refine OpsE.ex (Ex.call rfl Tryz.call66 (npages_spec w _ H)) rfl ?_; (try clear H); rintro _ w ⟨rfl, H⟩) | refine OpsE.no rfl rfl rfl ?_ | refine OpsE.off rfl rfl rfl ?_
    first | (refine OpsE.yes rfl rfl ?_; refine OpsE.ev (Ev.lss (r := false) rfl rfl (decide_eq_false (by omega))) rfl ?_) | refine OpsE.no rfl rfl rfl ?_ | refine OpsE.off rfl rfl rfl ?_
    refine OpsE.ev ((by first | exact Ev.pickT rfl rfl | exact Ev.pickF rfl rfl)) rfl ?_
    refine OpsE.ev (Ev.assign rfl) rfl ?_
    refine OpsE.nil ?_
    repeat (first | refine .seq ?_ | refine .skip ?_ | refine .block ?_ | refine .inBlock ?_ | refine .yes rfl ?_ | refine .no rfl ?_ | refine .exit rfl ?_)
    exact RunsE.ret1 Tryz.func30 rfl rfl ⟨rfl, H⟩
  ·
    repeat (first | refine .seq ?_ | refine .skip ?_ | refine .block ?_ | refine .inBlock ?_ | refine .yes rfl ?_ | refine .no rfl ?_ | refine .exit rfl ?_)
    refine RunsE.region ?_
    refine OpsE.ev (Ev.move rfl) rfl ?_
    refine OpsE.ev (Ev.geq (r := false) rfl rfl (decide_eq_false h0)) rfl ?_
    refine OpsE.ev (Ev.move rfl) rfl ?_
    first | (refine OpsE.yes rfl rfl ?_; refine OpsE.ev (Ev.move rfl) rfl ?_) | refine OpsE.no rfl rfl rfl ?_ | refine OpsE.off rfl rfl rfl ?_
    first | (refine OpsE.yes rfl rfl ?_; refine OpsE.ev (Ev.move rfl) rfl ?_) | refine OpsE.no rfl rfl rfl ?_ | refine OpsE.off rfl rfl rfl ?_
    first | (refine OpsE.yes rfl rfl ?_; refine OpsE.ex (Ex.call rfl Tryz.call66 (?spec)) rfl ?_; (try clear H); rintro _ w ⟨rfl, H⟩) | refine OpsE.no rfl rfl rfl ?_ | refine OpsE.off rfl rfl rfl ?_
    first | (refine OpsE.yes rfl rfl ?_; refine OpsE.ev (Ev.lss (r := false) rfl rfl (decide_eq_false (by omega))) rfl ?_) | refine OpsE.no rfl rfl rfl ?_ | refine OpsE.off rfl rfl rfl ?_
    refine OpsE.ev ((by first | exact Ev.pickT rfl rfl | exact Ev.pickF rfl rfl)) rfl ?_
    refine OpsE.ev (Ev.assign rfl) rfl ?_
    refine OpsE.nil ?_
    repeat (first | refine .seq ?_ | refine .skip ?_ | refine .block ?_ | refine .inBlock ?_ | refine .yes rfl ?_ | refine .no rfl ?_ | refine .exit rfl ?_)
    exact RunsE.ret1 Tryz.func30 rfl rfl ⟨rfl, H⟩

theorem is_spec [Strm] (s : St) (page : Int) (b : Nat) (A : List (Nat × Obj)) (w : World) (F : List (Nat × Obj)) (hA : HoldS b s A) (H : SL w (A ++ F)) :
    Does Tryz.prog 30 #[.pointer (some ⟨b, 0, none⟩), .int .i64 page] w fun r w' => r = .bool (s.has page) ∧ SL w' (A ++ F) := by
  refine Does.intro (args := [_, _]) (e := [(0, _), (1, _)]) Tryz.func30 rfl Tryz.ntmps30 rfl rfl ?_
  repeat (first | refine .seq ?_ | refine .skip ?_ | refine .block ?_ | refine .inBlock ?_ | refine .yes rfl ?_ | refine .no rfl ?_ | refine .exit rfl ?_)
  repeat (first | refine .seq ?_ | refine .skip ?_ | refine .block ?_ | refine .inBlock ?_ | refine .yes rfl ?_ | refine .no rfl ?_ | refine .exit rfl ?_)
  refine RunsE.region ?_
  refine OpsE.ev (Ev.assign rfl) rfl ?_
  refine OpsE.nil ?_
  by_cases h0 : 0 ≤ page
  ·
    repeat (first | refine .seq ?_ | refine .skip ?_ | refine .block ?_ | refine .inBlock ?_ | refine .yes rfl ?_ | refine .no rfl ?_ | refine .exit rfl ?_)
    refine RunsE.region ?_
    refine OpsE.ev (Ev.move rfl) rfl ?_
    refine OpsE.ev (Ev.geq (r := true) rfl rfl (decide_eq_true h0)) rfl ?_
    refine OpsE.ev (Ev.move rfl) rfl ?_
    first | (refine OpsE.yes rfl rfl ?_; refine OpsE.ev (Ev.move rfl) rfl ?_) | refine OpsE.no rfl rfl rfl ?_ | refine OpsE.off rfl rfl rfl ?_
    first | (refine OpsE.yes rfl rfl ?_; refine OpsE.ev (Ev.move rfl) rfl ?_) | refine OpsE.no rfl rfl rfl ?_ | refine OpsE.off rfl rfl rfl ?_
    first | (refine OpsE.yes rfl rfl ?_; refine OpsE.ex (Ex.call rfl Tryz.call66 (pages_spec s b A w _ hA H)) rfl ?_; (try clear H); rintro _ w ⟨rfl, H⟩) | refine OpsE.no rfl rfl rfl ?_ | refine OpsE.off rfl rfl rfl ?_
    first | (refine OpsE.yes rfl rfl ?_; refine OpsE.ev (Ev.lss (r := decide (page < s.P.length)) rfl rfl rfl) rfl ?_) | refine OpsE.no rfl rfl rfl ?_ | refine OpsE.off rfl rfl rfl ?_
    refine OpsE.ev ((by first | exact Ev.pickT rfl rfl | exact Ev.pickF rfl rfl)) rfl ?_
    refine OpsE.ev (Ev.assign rfl) rfl ?_
    refine OpsE.nil ?_
    repeat (first | refine .seq ?_ | refine .skip ?_ | refine .block ?_ | refine .inBlock ?_ | refine .yes rfl ?_ | refine .no rfl ?_ | refine .exit rfl ?_)
    exact RunsE.ret1 Tryz.func30 rfl rfl ⟨by rw [St.has, decide_eq_true h0, Bool.true_and], H⟩
  ·
    repeat (first | refine .seq ?_ | refine .skip ?_ | refine .block ?_ | refine .inBlock ?_ | refine .yes rfl ?_ | refine .no rfl ?_ | refine .exit rfl ?_)
    refine RunsE.region ?_
    refine OpsE.ev (Ev.move rfl) rfl ?_
    refine OpsE.ev (Ev.geq (r := false) rfl rfl (decide_eq_false h0)) rfl ?_
    refine OpsE.ev (Ev.move rfl) rfl ?_
    first | (refine OpsE.yes rfl rfl ?_; refine OpsE.ev (Ev.move rfl) rfl ?_) | refine OpsE.no rfl rfl rfl ?_ | refine OpsE.off rfl rfl rfl ?_
    first | (refine OpsE.yes rfl rfl ?_; refine OpsE.ev (Ev.move rfl) rfl ?_) | refine OpsE.no rfl rfl rfl ?_ | refine OpsE.off rfl rfl rfl ?_
    first | (refine OpsE.yes rfl rfl ?_; refine OpsE.ex (Ex.call rfl Tryz.call66 (?spec)) rfl ?_; (try clear H); rintro _ w ⟨rfl, H⟩) | refine OpsE.no rfl rfl rfl ?_ | refine OpsE.off rfl rfl rfl ?_
    first | (refine OpsE.yes rfl rfl ?_; refine OpsE.ev (Ev.lss (r := false) rfl rfl (decide_eq_false (by omega))) rfl ?_) | refine OpsE.no rfl rfl rfl ?_ | refine OpsE.off rfl rfl rfl ?_
    refine OpsE.ev ((by first | exact Ev.pickT rfl rfl | exact Ev.pickF rfl rfl)) rfl ?_
    refine OpsE.ev (Ev.assign rfl) rfl ?_
    refine OpsE.nil ?_
    repeat (first | refine .seq ?_ | refine .skip ?_ | refine .block ?_ | refine .inBlock ?_ | refine .yes rfl ?_ | refine .no rfl ?_ | refine .exit rfl ?_)
    exact RunsE.ret1 Tryz.func30 rfl rfl ⟨by rw [St.has, decide_eq_false h0, Bool.false_and], H⟩

theorem steps_spec [Strm] (s : St) (b : Nat) (A : List (Nat × Obj)) (w : World) (F : List (Nat × Obj)) (hA : HoldS b s A) (H : SL w (A ++ F)) :
    Does Tryz.prog 32 #[.pointer (some ⟨b, 0, none⟩)] w fun r w' => ∃ A', r = EV s.step.2 ∧ HoldS b s.step.1 A' ∧ SL w' (A' ++ F) := by
  obtain ⟨rb, pv, qv, ql, Bq, D, hp, hq, hQ, ok⟩ := hA
  rw [List.cons_append] at H
  refine Does.intro (args := [_]) (e := [(0, _)]) Tryz.func32 rfl Tryz.ntmps32 rfl rfl ?_
  repeat (first | refine .seq ?_ | refine .skip ?_ | refine .block ?_ | refine .inBlock ?_ | refine .yes rfl ?_ | refine .no rfl ?_ | refine .exit rfl ?_)
  repeat (first | refine .seq ?_ | refine .skip ?_ | refine .block ?_ | refine .inBlock ?_ | refine .yes rfl ?_ | refine .no rfl ?_ | refine .exit rfl ?_)
  refine RunsE.region ?_
  refine OpsE.ev (Ev.assign rfl) rfl ?_
  refine OpsE.nil ?_
  by_cases h1 : s.armed = false
  · rw [h1] at H
    repeat (first | refine .seq ?_ | refine .skip ?_ | refine .block ?_ | refine .inBlock ?_ | refine .yes rfl ?_ | refine .no rfl ?_ | refine .exit rfl ?_)
    refine RunsE.region ?_
    refine OpsE.ev (Ev.move rfl) rfl ?_
    refine OpsE.ev (Ev.nilCheck rfl) rfl ?_
    refine OpsE.ev (Ev.fieldAddr (o := 3) rfl (by kernel_rfl)) rfl ?_
    refine OpsE.ev (Ev.load H rfl (by kernel_rfl) (by first | exact Rd.mk m0 rfl | exact Rd.mk m1 rfl | exact Rd.mk m2 rfl | exact Rd.mk m3 rfl | assumption)) rfl ?_
    refine OpsE.ev (Ev.not rfl) rfl ?_
    refine OpsE.nil ?_
    repeat (first | refine .seq ?_ | refine .skip ?_ | refine .block ?_ | refine .inBlock ?_ | refine .yes rfl ?_ | refine .no rfl ?_ | refine .exit rfl ?_)
    refine RunsE.region ?_
    refine OpsE.ev (Ev.assign rfl) rfl ?_
    refine OpsE.nil ?_
    repeat (first | refine .seq ?_ | refine .skip ?_ | refine .block ?_ | refine .inBlock ?_ | refine .yes rfl ?_ | refine .no rfl ?_ | refine .exit rfl ?_)
    refine RunsE.ret1 Tryz.func32 rfl rfl ?_
    rw [show s.step = (s, 0) by simp [St.step, h1]]
    exact ⟨_, rfl, .mk rb pv qv ql Bq D hp hq hQ ok, by dsimp only; rw [List.cons_append, h1]; exact H⟩
  have h1' : s.armed = true := by simpa using h1
  rw [h1'] at H
  by_cases h2 : s.left = 0
  · rw [h2] at H
    repeat (first | refine .seq ?_ | refine .skip ?_ | refine .block ?_ | refine .inBlock ?_ | refine .yes rfl ?_ | refine .no rfl ?_ | refine .exit rfl ?_)
    refine RunsE.region ?_
    refine OpsE.ev (Ev.move rfl) rfl ?_
    refine OpsE.ev (Ev.nilCheck rfl) rfl ?_
    refine OpsE.ev (Ev.fieldAddr (o := 3) rfl (by kernel_rfl)) rfl ?_
    refine OpsE.ev (Ev.load H rfl (by kernel_rfl) (by first | exact Rd.mk m0 rfl | exact Rd.mk m1 rfl | exact Rd.mk m2 rfl | exact Rd.mk m3 rfl | assumption)) rfl ?_
    refine OpsE.ev (Ev.not rfl) rfl ?_
    refine OpsE.nil ?_
    repeat (first | refine .seq ?_ | refine .skip ?_ | refine .block ?_ | refine .inBlock ?_ | refine .yes rfl ?_ | refine .no rfl ?_ | refine .exit rfl ?_)
    refine RunsE.region ?_
    refine OpsE.ev (Ev.move rfl) rfl ?_
    refine OpsE.ev (Ev.nilCheck rfl) rfl ?_
    refine OpsE.ev (Ev.fieldAddr (o := 2) rfl (by kernel_rfl)) rfl ?_
    refine OpsE.ev (Ev.load H rfl (by kernel_rfl) (by first | exact Rd.mk m0 rfl | exact Rd.mk m1 rfl | exact Rd.mk m2 rfl | exact Rd.mk m3 rfl | assumption)) rfl ?_
    refine OpsE.ev (Ev.eql rfl rfl) rfl ?_
    refine OpsE.nil ?_
    repeat (first | refine .seq ?_ | refine .skip ?_ | refine .block ?_ | refine .inBlock ?_ | refine .yes rfl ?_ | refine .no rfl ?_ | refine .exit rfl ?_)
    refine RunsE.region ?_
    refine OpsE.ev (Ev.move rfl) rfl ?_
    refine OpsE.ev (Ev.move rfl) rfl ?_
    refine OpsE.ev (Ev.nilCheck rfl) rfl ?_
    refine OpsE.ev (Ev.fieldAddr (o := 4) rfl (by kernel_rfl)) rfl ?_
    refine OpsE.exn (Ex.store1 H rfl rfl (by kernel_rfl) rfl u0 (by simp) (Thaw.zero _ _) rfl) ?_; (try clear H); intro _ w H
    refine OpsE.ev (Ev.nilCheck rfl) rfl ?_
    refine OpsE.ev (Ev.fieldAddr (o := 3) rfl (by kernel_rfl)) rfl ?_
    refine OpsE.exn (Ex.store1 H rfl rfl (by kernel_rfl) rfl u0 (by simp) (Thaw.zero _ _) rfl) ?_; (try clear H); intro _ w H
    refine OpsE.nil ?_
    repeat (first | refine .seq ?_ | refine .skip ?_ | refine .block ?_ | refine .inBlock ?_ | refine .yes rfl ?_ | refine .no rfl ?_ | refine .exit rfl ?_)
    refine RunsE.region ?_
    refine OpsE.ev (Ev.makeInterface (d := (.int .i64)) rfl (by kernel_rfl) rfl) rfl ?_
    refine OpsE.ev (Ev.assign rfl) rfl ?_
    refine OpsE.nil ?_
    repeat (first | refine .seq ?_ | refine .skip ?_ | refine .block ?_ | refine .inBlock ?_ | refine .yes rfl ?_ | refine .no rfl ?_ | refine .exit rfl ?_)
    refine RunsE.ret1 Tryz.func32 rfl rfl ?_
    rw [show s.step = ({ s with down := true, armed := false }, 13) by simp [St.step, h1, h2]]
    exact ⟨_, rfl, .mk rb pv qv ql Bq D hp hq hQ ⟨ok.1, ok.2, ok.3, ok.4, ok.5⟩, by dsimp only; rw [List.cons_append, h2]; exact H⟩
  · have hle := ok.left
    repeat (first | refine .seq ?_ | refine .skip ?_ | refine .block ?_ | refine .inBlock ?_ | refine .yes rfl ?_ | refine .no rfl ?_ | refine .exit rfl ?_)
    refine RunsE.region ?_
    refine OpsE.ev (Ev.move rfl) rfl ?_
    refine OpsE.ev (Ev.nilCheck rfl) rfl ?_
    refine OpsE.ev (Ev.fieldAddr (o := 3) rfl (by kernel_rfl)) rfl ?_
    refine OpsE.ev (Ev.load H rfl (by kernel_rfl) (by first | exact Rd.mk m0 rfl | exact Rd.mk m1 rfl | exact Rd.mk m2 rfl | exact Rd.mk m3 rfl | assumption)) rfl ?_
    refine OpsE.ev (Ev.not rfl) rfl ?_
    refine OpsE.nil ?_
    repeat (first | refine .seq ?_ | refine .skip ?_ | refine .block ?_ | refine .inBlock ?_ | refine .yes rfl ?_ | refine .no rfl ?_ | refine .exit rfl ?_)
    refine RunsE.region ?_
    refine OpsE.ev (Ev.move rfl) rfl ?_
    refine OpsE.ev (Ev.nilCheck rfl) rfl ?_
    refine OpsE.ev (Ev.fieldAddr (o := 2) rfl (by kernel_rfl)) rfl ?_
    refine OpsE.ev (Ev.load H rfl (by kernel_rfl) (by first | exact Rd.mk m0 rfl | exact Rd.mk m1 rfl | exact Rd.mk m2 rfl | exact Rd.mk m3 rfl | assumption)) rfl ?_
    refine OpsE.ev (Ev.eql (r := false) rfl rfl (beq_eq_false_iff_ne.2 (by omega))) rfl ?_
    refine OpsE.nil ?_
    repeat (first | refine .seq ?_ | refine .skip ?_ | refine .block ?_ | refine .inBlock ?_ | refine .yes rfl ?_ | refine .no rfl ?_ | refine .exit rfl ?_)
    refine RunsE.region ?_
    refine OpsE.ev (Ev.move rfl) rfl ?_
    refine OpsE.ev (Ev.nilCheck rfl) rfl ?_
    refine OpsE.ev (Ev.fieldAddr (o := 2) rfl (by kernel_rfl)) rfl ?_
    refine OpsE.ev (Ev.load H rfl (by kernel_rfl) (by first | exact Rd.mk m0 rfl | exact Rd.mk m1 rfl | exact Rd.mk m2 rfl | exact Rd.mk m3 rfl | assumption)) rfl ?_
    refine OpsE.ev (Ev.sub (c := ((s.left - 1 : Nat) : Int)) rfl rfl (by rw [qi64 (by omega) (by omega)]; omega)) rfl ?_
    refine OpsE.ev (Ev.nilCheck rfl) rfl ?_
    refine OpsE.ev (Ev.fieldAddr (o := 2) rfl (by kernel_rfl)) rfl ?_
    refine OpsE.exn (Ex.store1 H rfl rfl (by kernel_rfl) rfl u0 (by simp) (Thaw.zero _ _) rfl) ?_; (try clear H); intro _ w H
    refine OpsE.nil ?_
    repeat (first | refine .seq ?_ | refine .skip ?_ | refine .block ?_ | refine .inBlock ?_ | refine .yes rfl ?_ | refine .no rfl ?_ | refine .exit rfl ?_)
    refine RunsE.region ?_
    refine OpsE.ev (Ev.assign rfl) rfl ?_
    refine OpsE.nil ?_
    repeat (first | refine .seq ?_ | refine .skip ?_ | refine .block ?_ | refine .inBlock ?_ | refine .yes rfl ?_ | refine .no rfl ?_ | refine .exit rfl ?_)
    refine RunsE.ret1 Tryz.func32 rfl rfl ?_
    rw [show s.step = ({ s with left := s.left - 1 }, 0) by simp [St.step, h1, h2]]
    exact ⟨_, rfl, .mk rb pv qv ql Bq D hp hq hQ ⟨ok.1, ok.2, ok.3, ok.4, by dsimp only; omega⟩, by dsimp only; rw [List.cons_append, h1']; exact H⟩

end Go.Proofs.YtflfaiakenahlaaGreatDoor
end

section
/-
  The library's sort at this dump: the kit's contracts, laid by its own tools (lay-shelf.mjs, lay-plain.mjs), in plain words.
-/
namespace Go.Proofs.YtflfaiakenahlaaGreatDoor
open Go.Shelf
def srt_lays189_ren : Go.Shelf.Ren := ⟨fun | 189 => 103 | 125 => 101 | 257 => 116 | 128 => 114 | 129 => 115 | 294 => 125 | 295 => 126 | 296 => 127 | 297 => 128 | 298 => 129 | 299 => 130 | 216 => 131 | 300 => 132 | 301 => 133 | 328 => 135 | 329 => 120 | 330 => 121 | 331 => 136 | 332 => 137 | 215 => 138 | 343 => 139 | n => n, fun | 28 => 67 | 3 => 3 | 46 => 59 | 0 => 0 | 51 => 195 | 53 => 89 | 4 => 4 | 183 => 187 | 182 => 186 | 131 => 192 | 5 => 5 | 9 => 9 | 218 => 199 | 222 => 203 | 228 => 211 | 229 => 212 | n => n, fun | n => n⟩
theorem srt_lays189 : Go.Proofs.Lays.n189 Tryz.prog srt_lays189_ren := {
  mixed := by kernel_rfl
  f125 := Tryz.func101.trans (congrArg some (by kernel_rfl))
  f128 := Tryz.func114.trans (congrArg some (by kernel_rfl))
  f129 := Tryz.func115.trans (congrArg some (by kernel_rfl))
  f189 := Tryz.func103.trans (congrArg some (by kernel_rfl))
  f215 := Tryz.func138.trans (congrArg some (by kernel_rfl))
  f216 := Tryz.func131.trans (congrArg some (by kernel_rfl))
  f257 := Tryz.func116.trans (congrArg some (by kernel_rfl))
  f294 := Tryz.func125.trans (congrArg some (by kernel_rfl))
  f295 := Tryz.func126.trans (congrArg some (by kernel_rfl))
  f296 := Tryz.func127.trans (congrArg some (by kernel_rfl))
  f297 := Tryz.func128.trans (congrArg some (by kernel_rfl))
  f298 := Tryz.func129.trans (congrArg some (by kernel_rfl))
  f299 := Tryz.func130.trans (congrArg some (by kernel_rfl))
  f300 := Tryz.func132.trans (congrArg some (by kernel_rfl))
  f301 := Tryz.func133.trans (congrArg some (by kernel_rfl))
  f328 := Tryz.func135.trans (congrArg some (by kernel_rfl))
  f329 := Tryz.func120.trans (congrArg some (by kernel_rfl))
  f330 := Tryz.func121.trans (congrArg some (by kernel_rfl))
  f331 := Tryz.func136.trans (congrArg some (by kernel_rfl))
  f332 := Tryz.func137.trans (congrArg some (by kernel_rfl))
  f343 := Tryz.func139.trans (congrArg some (by kernel_rfl))
  t0 := Tryz.underlying0
  a0 := Tryz.isAgg0
  z0 := Tryz.sizeOf0
  v0 := Tryz.zeroValue0
  t3 := Tryz.underlying3
  a3 := Tryz.isAgg3
  z3 := Tryz.sizeOf3
  v3 := Tryz.zeroValue3
  t4 := Tryz.underlying4
  a4 := Tryz.isAgg4
  z4 := Tryz.sizeOf4
  v4 := Tryz.zeroValue4
  t5 := Tryz.underlying5
  a5 := Tryz.isAgg5
  z5 := Tryz.sizeOf5
  v5 := Tryz.zeroValue5
  t9 := Tryz.underlying9
  a9 := Tryz.isAgg9
  z9 := Tryz.sizeOf9
  v9 := Tryz.zeroValue9
  t28 := Tryz.underlying67
  a28 := Tryz.isAgg67
  z28 := Tryz.sizeOf67
  v28 := Tryz.zeroValue67
  t46 := Tryz.underlying59
  a46 := Tryz.isAgg59
  z46 := Tryz.sizeOf59
  v46 := Tryz.zeroValue59
  t51 := Tryz.underlying195
  a51 := Tryz.isAgg195
  z51 := Tryz.sizeOf195
  v51 := Tryz.zeroValue195
  t53 := Tryz.underlying89
  a53 := Tryz.isAgg89
  z53 := Tryz.sizeOf89
  v53 := Tryz.zeroValue89
  t131 := Tryz.underlying192
  a131 := Tryz.isAgg192
  z131 := Tryz.sizeOf192
  v131 := Tryz.zeroValue192
  t182 := Tryz.underlying186
  a182 := Tryz.isAgg186
  z182 := Tryz.sizeOf186
  v182 := Tryz.zeroValue186
  t183 := Tryz.underlying187
  a183 := Tryz.isAgg187
  z183 := Tryz.sizeOf187
  v183 := Tryz.zeroValue187
  t218 := Tryz.underlying199
  a218 := Tryz.isAgg199
  z218 := Tryz.sizeOf199
  v218 := Tryz.zeroValue199
  t222 := Tryz.underlying203
  a222 := Tryz.isAgg203
  z222 := Tryz.sizeOf203
  v222 := Tryz.zeroValue203
  t228 := Tryz.underlying211
  a228 := Tryz.isAgg211
  z228 := Tryz.sizeOf211
  v228 := Tryz.zeroValue211
  t229 := Tryz.underlying212
  a229 := Tryz.isAgg212
  z229 := Tryz.sizeOf212
  v229 := Tryz.zeroValue212 }
open Go.Sort Go.RowKit in
theorem srt_int (blk off cap : Nat) (zs : List Int) (w : World) (hH : Holds (Value.int .i64) w blk off zs.toArray) (hblk : blk < w.heap.size) (hsz : zs.length < 4611686018427387904) :
    Calls Tryz.prog 103 #[.slice (some ⟨blk, off, none⟩) zs.length cap] w fun e w' =>
      e = .returned (.tuple #[]) ∧ ∃ n os, w' = grow (putRow (Value.int .i64) (Sort.ahead w n) blk off (zs.mergeSort fun x y => decide (x ≤ y)).toArray) os := Any.slices_Sort_int srt_lays189 blk off cap zs w hH hblk hsz
def srt_lays190_ren : Go.Shelf.Ren := ⟨fun | 190 => 81 | 125 => 101 | 258 => 100 | 128 => 114 | 129 => 115 | 302 => 105 | 303 => 106 | 304 => 107 | 305 => 108 | 306 => 109 | 307 => 110 | 308 => 111 | 309 => 112 | 310 => 113 | 333 => 119 | 329 => 120 | 330 => 121 | 334 => 122 | 335 => 123 | 336 => 124 | 344 => 134 | n => n, fun | 31 => 51 | 9 => 9 | 3 => 3 | 46 => 59 | 0 => 0 | 51 => 195 | 53 => 89 | 4 => 4 | 183 => 187 | 182 => 186 | 131 => 192 | 5 => 5 | 218 => 199 | 222 => 203 | 228 => 211 | 229 => 212 | n => n, fun | n => n⟩
theorem srt_lays190 : Go.Proofs.Lays.n190 Tryz.prog srt_lays190_ren := {
  mixed := by kernel_rfl
  f125 := Tryz.func101.trans (congrArg some (by kernel_rfl))
  f128 := Tryz.func114.trans (congrArg some (by kernel_rfl))
  f129 := Tryz.func115.trans (congrArg some (by kernel_rfl))
  f190 := Tryz.func81.trans (congrArg some (by kernel_rfl))
  f258 := Tryz.func100.trans (congrArg some (by kernel_rfl))
  f302 := Tryz.func105.trans (congrArg some (by kernel_rfl))
  f303 := Tryz.func106.trans (congrArg some (by kernel_rfl))
  f304 := Tryz.func107.trans (congrArg some (by kernel_rfl))
  f305 := Tryz.func108.trans (congrArg some (by kernel_rfl))
  f306 := Tryz.func109.trans (congrArg some (by kernel_rfl))
  f307 := Tryz.func110.trans (congrArg some (by kernel_rfl))
  f308 := Tryz.func111.trans (congrArg some (by kernel_rfl))
  f309 := Tryz.func112.trans (congrArg some (by kernel_rfl))
  f310 := Tryz.func113.trans (congrArg some (by kernel_rfl))
  f329 := Tryz.func120.trans (congrArg some (by kernel_rfl))
  f330 := Tryz.func121.trans (congrArg some (by kernel_rfl))
  f333 := Tryz.func119.trans (congrArg some (by kernel_rfl))
  f334 := Tryz.func122.trans (congrArg some (by kernel_rfl))
  f335 := Tryz.func123.trans (congrArg some (by kernel_rfl))
  f336 := Tryz.func124.trans (congrArg some (by kernel_rfl))
  f344 := Tryz.func134.trans (congrArg some (by kernel_rfl))
  t0 := Tryz.underlying0
  a0 := Tryz.isAgg0
  z0 := Tryz.sizeOf0
  v0 := Tryz.zeroValue0
  t3 := Tryz.underlying3
  a3 := Tryz.isAgg3
  z3 := Tryz.sizeOf3
  v3 := Tryz.zeroValue3
  t4 := Tryz.underlying4
  a4 := Tryz.isAgg4
  z4 := Tryz.sizeOf4
  v4 := Tryz.zeroValue4
  t5 := Tryz.underlying5
  a5 := Tryz.isAgg5
  z5 := Tryz.sizeOf5
  v5 := Tryz.zeroValue5
  t9 := Tryz.underlying9
  a9 := Tryz.isAgg9
  z9 := Tryz.sizeOf9
  v9 := Tryz.zeroValue9
  t31 := Tryz.underlying51
  a31 := Tryz.isAgg51
  z31 := Tryz.sizeOf51
  v31 := Tryz.zeroValue51
  t46 := Tryz.underlying59
  a46 := Tryz.isAgg59
  z46 := Tryz.sizeOf59
  v46 := Tryz.zeroValue59
  t51 := Tryz.underlying195
  a51 := Tryz.isAgg195
  z51 := Tryz.sizeOf195
  v51 := Tryz.zeroValue195
  t53 := Tryz.underlying89
  a53 := Tryz.isAgg89
  z53 := Tryz.sizeOf89
  v53 := Tryz.zeroValue89
  t131 := Tryz.underlying192
  a131 := Tryz.isAgg192
  z131 := Tryz.sizeOf192
  v131 := Tryz.zeroValue192
  t182 := Tryz.underlying186
  a182 := Tryz.isAgg186
  z182 := Tryz.sizeOf186
  v182 := Tryz.zeroValue186
  t183 := Tryz.underlying187
  a183 := Tryz.isAgg187
  z183 := Tryz.sizeOf187
  v183 := Tryz.zeroValue187
  t218 := Tryz.underlying199
  a218 := Tryz.isAgg199
  z218 := Tryz.sizeOf199
  v218 := Tryz.zeroValue199
  t222 := Tryz.underlying203
  a222 := Tryz.isAgg203
  z222 := Tryz.sizeOf203
  v222 := Tryz.zeroValue203
  t228 := Tryz.underlying211
  a228 := Tryz.isAgg211
  z228 := Tryz.sizeOf211
  v228 := Tryz.zeroValue211
  t229 := Tryz.underlying212
  a229 := Tryz.isAgg212
  z229 := Tryz.sizeOf212
  v229 := Tryz.zeroValue212 }
open Go.Sort Go.RowKit in
theorem srt_string (blk off cap : Nat) (ss : List (List UInt8)) (w : World) (hH : Holds encStr w blk off ss.toArray) (hblk : blk < w.heap.size) (hsz : ss.length < 4611686018427387904) :
    Calls Tryz.prog 81 #[.slice (some ⟨blk, off, none⟩) ss.length cap] w fun e w' =>
      e = .returned (.tuple #[]) ∧ ∃ n os, w' = grow (putRow encStr (Sort.ahead w n) blk off (ss.mergeSort fun x y => decide (x ≤ y)).toArray) os := Any.slices_Sort_string srt_lays190 blk off cap ss w hH hblk hsz
open Go.RowKit Go.Sort in
theorem srt_string_none (p : Option Addr) (cap : Nat) (w : World) :
    Calls Tryz.prog 81 #[.slice p 0 cap] w fun e w' => e = .returned (.tuple #[]) ∧ w' = w := Any.slices_Sort_string_none srt_lays190 p cap w
open Go.RowKit Go.Sort in
theorem srt_int_none (p : Option Addr) (cap : Nat) (w : World) :
    Calls Tryz.prog 103 #[.slice p 0 cap] w fun e w' => e = .returned (.tuple #[]) ∧ w' = w := Any.slices_Sort_int_none srt_lays189 p cap w
end Go.Proofs.YtflfaiakenahlaaGreatDoor
end

section
/-
  The engine: from a row's premise to the walk's, and back: the blocks that were there when the call began, bytes and arrays of bytes that came in.
-/
namespace Go.Proofs.YtflfaiakenahlaaGreatDoor.V
open Go.ChangeShapes Go.WideShapes Go.ChangeAt Go.RowKit

theorem len63 : maxLen ≤ 9223372036854775807 := by unfold maxLen; omega

/-- The streams of this world. -/
@[reducible] def streams (w : World) : Strm := ⟨w.tape, w.os, w.output⟩

/-- All blocks of a world. -/
def oldL (w : World) : List (Nat × Obj) := w.heap.toList.zipIdx.map fun p => (p.2, p.1)

theorem mem_oldL {w : World} {b : Nat} {o : Obj} : (b, o) ∈ oldL w ↔ w.heap[b]? = some o := by
  unfold oldL
  rw [List.mem_map]
  constructor
  · rintro ⟨⟨o', b'⟩, hm, he⟩
    obtain ⟨rfl, rfl⟩ := Prod.mk.inj he
    have := List.mem_zipIdx_iff_getElem?.1 hm
    simpa using this
  · intro h
    exact ⟨(o, b), List.mem_zipIdx_iff_getElem?.2 (by simpa using h), rfl⟩

theorem old_SL (w : World) : @SL (streams w) w (oldL w) := by
  refine ⟨fun p hp => ?_, ?_, rfl, rfl, rfl⟩
  · obtain ⟨b, o⟩ := p
    exact mem_oldL.1 hp
  · have : (oldL w).map Prod.fst = w.heap.toList.zipIdx.map Prod.snd := by
      unfold oldL
      rw [List.map_map]
      rfl
    rw [this, List.zipIdx_map_snd]
    exact List.nodup_range'

theorem old_below {W w : World} (h : @SL (streams W) w (oldL W)) : Below W.heap.size W w := by
  have hb : ∀ k, k < W.heap.size → w.heap[k]? = W.heap[k]? := fun k hk => by
    have hm : (k, W.heap[k]) ∈ oldL W := mem_oldL.2 (by simp [hk])
    rw [h.1 _ hm]
    simp [hk]
  refine ⟨h.2.2.2.1, h.2.2.1, h.2.2.2.2, ?_, hb⟩
  rcases Nat.lt_or_ge w.heap.size W.heap.size with hlt | hge
  · have := hb w.heap.size hlt
    rw [Array.getElem?_eq_none (Nat.le_refl _)] at this
    simp [hlt] at this
  · exact hge

theorem old_rd {w : World} {b off : Nat} {v : Value} (h : w.cell? ⟨b, off, none⟩ = some v) : Rd (oldL w) ⟨b, off, none⟩ v := by
  unfold World.cell? at h
  cases hb : w.heap[b]? with
  | none => simp [hb] at h
  | some o =>
    cases o with
    | cells c t fr =>
      rw [hb] at h
      simp at h
      exact Rd.mk (mem_oldL.2 hb) h
    | map _ _ => simp [hb] at h
    | chan _ => simp [hb] at h
    | _ => simp [hb] at h

section
variable {H : Type} {enc : TypeId × Value → H} {P : Program} {w : World}

theorem u8_of {z : Int} (h : (Lit.int .u8 z).wf = true) : 0 ≤ z ∧ z ≤ 255 := by
  simpa [Lit.wf, IntKind.min, IntKind.max, IntKind.signed, IntKind.bits] using h

theorem u8_val {z : Int} (h : (Lit.int .u8 z).wf = true) : Value.int .u8 z = .int .u8 ((UInt8.ofNat z.toNat).toNat : Int) := by
  obtain ⟨h1, h2⟩ := u8_of h
  congr 1
  have : (UInt8.ofNat z.toNat).toNat = z.toNat % 256 := by simp
  rw [this]
  omega

/-- Bytes that came in: nil, or read where they lie. -/
theorem bytes_in {t e : TypeId} {v : Value} {d : DataW H} {ps : List MemPlace} (ht : P.underlying t = some (.slice e)) (he : P.underlying e = some (.int .u8)) (hc : P.cellsOf e = 1)
    (hs : ∃ a len cap, v = .slice a len cap) (h : DataW.Trod enc P w 0 (fun _ => true) true t v d ps) :
    ∃ bs : List UInt8, bs.length ≤ maxLen ∧ Inp (oldL w) v bs := by
  obtain ⟨a0, len0, cap0, rfl⟩ := hs
  obtain ⟨fuel, hf⟩ := h
  rcases open_ints ht he hc hf with ⟨hcs, _⟩ | ⟨x, l, c, zs, hcs, _, hl, hm, hz, _, hcell, hwz⟩
  · simp [Value.cells] at hcs
    obtain ⟨rfl, rfl, rfl⟩ := hcs
    exact ⟨[], by simp, .nil⟩
  · simp [Value.cells] at hcs
    obtain ⟨rfl, rfl, rfl⟩ := hcs
    simp only [if_true] at hz
    refine ⟨(zs.take len0).map fun z => UInt8.ofNat z.toNat, by rw [List.length_map, List.length_take]; omega, ?_⟩
    have hlen : ((zs.take len0).map fun z => UInt8.ofNat z.toNat).length = len0 := by rw [List.length_map, List.length_take]; omega
    obtain ⟨b, off, spot⟩ := x
    by_cases h0 : len0 = 0
    · subst h0
      exact .empty _ _
    · have hc0 := hcell 0 (by omega)
      have hspot : spot = none := by simpa [Addr.add] using World.cell?_spot hc0
      subst hspot
      have := Inp.blk (L := oldL w) b off cap0 ((zs.take len0).map fun z => UInt8.ofNat z.toNat) (by omega) fun i hi => ?_
      · rw [hlen] at this; exact this
      rw [hlen] at hi
      have hci := hcell i (by omega)
      rw [add_none] at hci
      have hw := hwz (zs.getD i 0) (by
        have : i < zs.length := by omega
        simp [List.getD_eq_getElem?_getD, this])
      rw [u8_val hw] at hci
      have e : ((zs.take len0).map fun z => UInt8.ofNat z.toNat).getD i 0 = UInt8.ofNat (zs.getD i 0).toNat := by
        have : i < zs.length := by omega
        simp [List.getD_eq_getElem?_getD, hi, this]
      rw [e]
      exact old_rd hci

/-- The cells of a list, one by one. -/
theorem cell_of_chunk {cs : List Value} {i : Nat} {v : Value} (h : (cs.drop i).take 1 = [v]) : cs[i]? = some v := by
  have := congrArg (·[0]?) h
  simpa [List.getElem?_take, List.getElem?_drop] using this

/-- An array of bytes that came in. -/
theorem arr_in {t e n base : Nat} {v : Value} {d : DataW H} {ps : List MemPlace} (ht : P.underlying t = some (.array n e)) (he : P.underlying e = some (.int .u8)) (hc : P.cellsOf e = 1) (hct : P.cellsOf t = n)
    (hval : Value.okWide P w .any base t v) (h : DataW.Trod enc P w 0 (fun _ => true) true t v d ps) : ∃ bs : List UInt8, bs.length = n ∧ v = .agg (bs.map fun b => Value.int .u8 (b.toNat : Int)).toArray := by
  simp only [Value.okWide, ht] at hval
  obtain ⟨cs, rfl, hsz, _⟩ := hval
  rw [hct] at hsz
  obtain ⟨fuel, hf⟩ := h
  cases fuel with
  | zero => simp [DataW.trod] at hf
  | succ fuel =>
    simp only [DataW.trod, ht, hc, hct, Nat.mul_one, Value.cells] at hf
    split at hf
    · obtain ⟨xs, hm, _⟩ := Option.map_eq_some_iff.1 hf
      have each : ∀ i, i < n → ∃ b : UInt8, cs.toList[i]? = some (Value.int .u8 (b.toNat : Int)) := fun i hi => by
        obtain ⟨b, _, hb⟩ := Lib.mapM_at hm i i (by simp [hi])
        obtain ⟨z, hz, _, hw⟩ := DataW.trod_int he hb
        exact ⟨UInt8.ofNat z.toNat, by rw [cell_of_chunk hz, u8_val hw]⟩
      refine ⟨cs.toList.map fun v => match v with | .int _ z => UInt8.ofNat z.toNat | _ => 0, by simp [hsz], ?_⟩
      congr 1
      apply Array.ext'
      simp only [List.map_map]
      apply List.ext_getElem?
      intro i
      by_cases hi : i < n
      · obtain ⟨b, hb⟩ := each i hi
        rw [List.getElem?_map, hb]
        simp
      · rw [List.getElem?_eq_none (by simp; omega), List.getElem?_eq_none (by simp; omega)]
    · cases hf

/-- A table of rows of integers that reads as it is listed. -/
theorem cells_of_tab2 {sp : Nat → Bool} {held : Bool} {base fuel t e q n m : Nat} {k : IntKind} {cs : List Value} {rows : List (List Int)} {p : List MemPlace}
    (ht : P.underlying t = some (.array n e)) (he : P.underlying e = some (.array m q)) (hq : P.underlying q = some (.int k)) (hcq : P.cellsOf q = 1) (hce : P.cellsOf e = m)
    (h : DataW.trod enc P w base sp held fuel t cs = some (.agg (rows.map (Lib.tabData k)), p)) :
    ∀ i j row z, rows[i]? = some row → row[j]? = some z → cs[i * m + j]? = some (.int k z) := by
  cases fuel with
  | zero => simp [DataW.trod] at h
  | succ fuel =>
    simp only [DataW.trod, ht, hce] at h
    split at h
    · obtain ⟨xs, hm, hx⟩ := Option.map_eq_some_iff.1 h
      have hxs : xs.map (·.1) = rows.map (Lib.tabData k) := by
        have := congrArg Prod.fst hx
        simpa using this
      have hxl : xs.length = n := by simpa using Lib.mapM_length hm
      have hrl : rows.length = n := by
        have := congrArg List.length hxs
        simp at this
        omega
      intro i j row z hi hj
      have hin : i < n := by
        rcases Nat.lt_or_ge i n with h | h
        · exact h
        · rw [List.getElem?_eq_none (by omega)] at hi; cases hi
      obtain ⟨b, hb, hf⟩ := Lib.mapM_at hm i i (by simp [hin])
      have h2 : (xs.map (·.1))[i]? = some b.1 := by simp [hb]
      rw [hxs, List.getElem?_map, hi] at h2
      simp only [Option.map_some, Option.some.injEq] at h2
      obtain ⟨b1, b2⟩ := b
      simp only at h2
      subst h2
      have h3 := Lib.cells_of_tab he hq hcq hce hf
      have h4 := congrArg (·[j]?) h3
      simp only [List.getElem?_map, hj, Option.map_some] at h4
      rw [List.getElem?_take] at h4
      split at h4
      · rw [List.getElem?_drop] at h4; exact h4
      · cases h4
    · cases h
end
end Go.Proofs.YtflfaiakenahlaaGreatDoor.V
end

section
/-
  The engine: slices that came in, whose elements are of one cell each: bytes' slices, integers, bools, strings.
-/
namespace Go.Proofs.YtflfaiakenahlaaGreatDoor.V
open Go.ChangeShapes Go.WideShapes Go.ChangeAt Go.RowKit

/-- A slice that came in, element by element: R tells what an element's cell is. -/
inductive Els {α : Type} (L : List (Nat × Obj)) (R : Value → α → Prop) : Value → List α → Prop where
  | nil : Els L R (.slice none 0 0) []
  | empty (a : Addr) (c : Nat) : Els L R (.slice (some a) 0 c) []
  | blk (b off c : Nat) (xs : List α) : xs.length ≤ c → (∀ i x, xs[i]? = some x → ∃ v, Rd L ⟨b, off + i, none⟩ v ∧ R v x) → Els L R (.slice (some ⟨b, off, none⟩) xs.length c) xs

section
variable {α : Type} {L L' : List (Nat × Obj)} {R R' : Value → α → Prop} {v : Value} {xs : List α}

theorem Els.sub (h : Els L R v xs) (hs : ∀ p ∈ L, p ∈ L') (hR : ∀ v x, R v x → R' v x) : Els L' R' v xs := by
  cases h with
  | nil => exact .nil
  | empty a c => exact .empty a c
  | blk b off c xs hc hr =>
    refine .blk b off c xs hc fun i x hi => ?_
    obtain ⟨v, h1, h2⟩ := hr i x hi
    exact ⟨v, h1.sub hs, hR v x h2⟩

theorem Els.len (h : Els L R v xs) : ∃ a c, v = .slice a xs.length c ∧ xs.length ≤ c := by
  cases h with
  | nil => exact ⟨_, _, rfl, by simp⟩
  | empty a c => exact ⟨_, _, rfl, by simp⟩
  | blk b off c xs hc hr => exact ⟨_, _, rfl, hc⟩

/-- What is read at an index. -/
theorem Els.at {a : Option Addr} {n c i : Nat} {x : α} (h : Els L R (.slice a n c) xs) (hi : xs[i]? = some x) : ∃ b off v, a = some ⟨b, off, none⟩ ∧ Rd L ⟨b, off + i, none⟩ v ∧ R v x := by
  cases h with
  | nil => simp at hi
  | empty a c => simp at hi
  | blk b off c xs hc hr =>
    obtain ⟨v, h1, h2⟩ := hr i x hi
    exact ⟨b, off, v, rfl, h1, h2⟩
end

section
variable {H : Type} {enc : TypeId × Value → H} {P : Program} {w : World}

theorem els_in {α : Type} [Inhabited α] {R : Value → α → Prop} {t e : TypeId} {v : Value} {d : DataW H} {ps : List MemPlace} (ht : P.underlying t = some (.slice e)) (hc : P.cellsOf e = 1)
    (hR : ∀ (n : Nat) (u : Value) (x : DataW H × List MemPlace), DataW.trod enc P w 0 (fun _ => true) true n e [u] = some x → ∃ y, R u y)
    (hs : ∃ a len cap, v = .slice a len cap) (h : DataW.Trod enc P w 0 (fun _ => true) true t v d ps) : ∃ xs : List α, xs.length ≤ maxLen ∧ Els (oldL w) R v xs := by
  obtain ⟨a0, len0, cap0, rfl⟩ := hs
  obtain ⟨fuel, hf⟩ := h
  rcases Go.Deep.open_slice1 ht hc hf with ⟨hcs, _⟩ | ⟨a, len, cap, m, n, V, D, Pl, hcs, _, hl, hm, hmm, _, hx⟩
  · simp [Value.cells] at hcs
    obtain ⟨rfl, rfl, rfl⟩ := hcs
    exact ⟨[], by simp, .nil⟩
  · simp [Value.cells] at hcs
    obtain ⟨rfl, rfl, rfl⟩ := hcs
    simp only [if_true] at hmm
    obtain ⟨g, hg⟩ := Go.Deep.choose_lt (α := α) (n := len0) (p := fun i y => R (V i) y) fun i hi => hR n (V i) _ (hx i (by omega)).2
    have hlen : ((List.range len0).map g).length = len0 := by simp
    refine ⟨(List.range len0).map g, by rw [hlen]; omega, ?_⟩
    by_cases h0 : len0 = 0
    · subst h0
      exact .empty _ _
    · obtain ⟨b, off, spot⟩ := a
      have hspot : spot = none := by simpa [Addr.add] using World.cell?_spot (hx 0 (by omega)).1
      subst hspot
      have := Els.blk (L := oldL w) (R := R) b off cap0 ((List.range len0).map g) (by omega) fun i x hi => ?_
      · rw [hlen] at this; exact this
      · have hi' : i < len0 := by
          rcases Nat.lt_or_ge i len0 with h | h
          · exact h
          · rw [List.getElem?_eq_none (by omega)] at hi; cases hi
        have hxv : x = g i := by
          rw [List.getElem?_map, List.getElem?_range hi'] at hi
          simpa using hi.symm
        subst hxv
        refine ⟨V i, old_rd ?_, hg i hi'⟩
        have := (hx i (by omega)).1
        rwa [add_none] at this

/-- Bytes, as an element's cell. -/
theorem bytes_cell {t e n : Nat} {u : Value} {x : DataW H × List MemPlace} (ht : P.underlying t = some (.slice e)) (he : P.underlying e = some (.int .u8)) (hc : P.cellsOf e = 1)
    (h : DataW.trod enc P w 0 (fun _ => true) true n t [u] = some x) : ∃ bs : List UInt8, bs.length ≤ maxLen ∧ Inp (oldL w) u bs := by
  have hs : ∃ a len cap, u = .slice a len cap := by
    rcases open_ints ht he hc h with ⟨hcs, _⟩ | ⟨y, l, c, zs, hcs, _⟩
    · simp at hcs; exact ⟨_, _, _, hcs⟩
    · simp at hcs; exact ⟨_, _, _, hcs⟩
  obtain ⟨a, l, c, rfl⟩ := hs
  exact bytes_in (d := x.1) (ps := x.2) ht he hc ⟨a, l, c, rfl⟩ ⟨n, h⟩

end
end Go.Proofs.YtflfaiakenahlaaGreatDoor.V
end

section
/-
  The engine: slices that came in, whose elements are structs of several cells.
-/
namespace Go.Proofs.YtflfaiakenahlaaGreatDoor.V
open Go.ChangeShapes Go.WideShapes Go.ChangeAt Go.RowKit

/-- A slice that came in, element by element: R tells what lies from a place on (the block, the cell). -/
inductive ElsA {α : Type} (sz : Nat) (R : Nat → Nat → α → Prop) : Value → List α → Prop where
  | nil : ElsA sz R (.slice none 0 0) []
  | empty (a : Addr) (c : Nat) : ElsA sz R (.slice (some a) 0 c) []
  | blk (b off c : Nat) (xs : List α) : xs.length ≤ c → (∀ i x, xs[i]? = some x → R b (off + i * sz) x) → ElsA sz R (.slice (some ⟨b, off, none⟩) xs.length c) xs

section
variable {α : Type} {sz : Nat} {R R' : Nat → Nat → α → Prop} {v : Value} {xs : List α}

theorem ElsA.sub (h : ElsA sz R v xs) (hR : ∀ b off x, R b off x → R' b off x) : ElsA sz R' v xs := by
  cases h with
  | nil => exact .nil
  | empty a c => exact .empty a c
  | blk b off c xs hc hr => exact .blk b off c xs hc fun i x hi => hR _ _ _ (hr i x hi)

theorem ElsA.len (h : ElsA sz R v xs) : ∃ a c, v = .slice a xs.length c ∧ xs.length ≤ c := by
  cases h with
  | nil => exact ⟨_, _, rfl, by simp⟩
  | empty a c => exact ⟨_, _, rfl, by simp⟩
  | blk b off c xs hc hr => exact ⟨_, _, rfl, hc⟩

/-- What lies at an index. -/
theorem ElsA.at {a : Option Addr} {n c i : Nat} {x : α} (h : ElsA sz R (.slice a n c) xs) (hi : xs[i]? = some x) : ∃ b off, a = some ⟨b, off, none⟩ ∧ R b (off + i * sz) x := by
  cases h with
  | nil => simp at hi
  | empty a c => simp at hi
  | blk b off c xs hc hr => exact ⟨b, off, rfl, hr i x hi⟩
end

theorem i64_of {z : Int} (h : (Lit.int .i64 z).wf = true) : -9223372036854775808 ≤ z ∧ z ≤ 9223372036854775807 := by
  simpa [Lit.wf, IntKind.min, IntKind.max, IntKind.signed, IntKind.bits] using h

section
variable {H : Type} {enc : TypeId × Value → H} {P : Program} {w : World}

/-- What a reading holds, at once. -/
def partsOf {H : Type} : DataW H → List (DataW H)
  | .slice elems _ => elems
  | .agg parts => parts
  | _ => []

theorem elsA_in {α : Type} [Inhabited α] {sz : Nat} {R : Nat → Nat → α → Prop} {t e : TypeId} {v : Value} {d : DataW H} {ps : List MemPlace} (ht : P.underlying t = some (.slice e)) (hc : P.cellsOf e = sz) (hpos : 0 < sz)
    (hR : ∀ (n b off : Nat) (cs : List Value) (x : DataW H × List MemPlace), cs.length = sz → (∀ (j : Nat) v, cs[j]? = some v → Rd (oldL w) ⟨b, off + j, none⟩ v) → DataW.trod enc P w 0 (fun _ => true) true n e cs = some x → x.1 ∈ partsOf d → ∃ y, R b off y)
    (hs : ∃ a len cap, v = .slice a len cap) (h : DataW.Trod enc P w 0 (fun _ => true) true t v d ps) : ∃ xs : List α, xs.length ≤ maxLen ∧ ElsA sz R v xs := by
  obtain ⟨a0, len0, cap0, rfl⟩ := hs
  obtain ⟨fuel, hf⟩ := h
  rcases Go.Deep.open_slice ht hf with ⟨hcs, _⟩ | ⟨a, len, cap, m, n, D, Pl, hcs, _, hl, hm, hmm, hd, hx⟩
  · simp [Value.cells] at hcs
    obtain ⟨rfl, rfl, rfl⟩ := hcs
    exact ⟨[], by simp, .nil⟩
  · simp [Value.cells] at hcs
    obtain ⟨rfl, rfl, rfl⟩ := hcs
    simp only [if_true] at hmm
    by_cases h0 : len0 = 0
    · subst h0
      exact ⟨[], by simp, .empty _ _⟩
    obtain ⟨b, off, spot⟩ := a
    have hspot : spot = none := by
      obtain ⟨cs', h1, _⟩ := hx 0 (by omega)
      obtain ⟨_, hl1, hc1⟩ := World.cells?_some h1
      rw [hc] at hl1 hc1
      have h2 := hc1 0 hpos
      rw [List.getElem?_eq_getElem (by omega)] at h2
      simpa [Addr.add] using World.cell?_spot h2
    subst hspot
    obtain ⟨g, hg⟩ := Go.Deep.choose_lt (α := α) (n := len0) (p := fun i y => R b (off + i * sz) y) fun i hi => by
      obtain ⟨cs', h1, h2⟩ := hx i (by omega)
      obtain ⟨_, hl1, hc1⟩ := World.cells?_some h1
      rw [hc] at hl1 hc1
      have hd1 := congrArg Prod.fst hd
      simp only at hd1
      refine hR n b (off + i * sz) cs' _ hl1 (fun j v hj => ?_) h2 (by rw [hd1]; exact List.mem_map_of_mem (List.mem_range.2 hi))
      have hlt : j < sz := by
        rcases Nat.lt_or_ge j sz with h | h
        · exact h
        · rw [List.getElem?_eq_none (by omega)] at hj; cases hj
      have h3 := hc1 j hlt
      rw [add_none, add_none, hj] at h3
      exact old_rd h3
    have hlen : ((List.range len0).map g).length = len0 := by simp
    refine ⟨(List.range len0).map g, by rw [hlen]; omega, ?_⟩
    have := ElsA.blk (sz := sz) (R := R) b off cap0 ((List.range len0).map g) (by omega) fun i x hi => ?_
    · rw [hlen] at this; exact this
    · have hi' : i < len0 := by
        rcases Nat.lt_or_ge i len0 with h | h
        · exact h
        · rw [List.getElem?_eq_none (by omega)] at hi; cases hi
      have hxv : x = g i := by
        rw [List.getElem?_map, List.getElem?_range hi'] at hi
        simpa using hi.symm
      subst hxv
      exact hg i hi'

/-- A struct's fields, of one cell each. -/
theorem fields_at {ts n : Nat} {fs : Array Field} {cs : List Value} {x : DataW H × List MemPlace} (hs : P.underlying ts = some (.struct fs)) (hone : Go.Deep.oneCellFields P fs = true) (hC : P.cellsOf ts = fs.size)
    (h : DataW.trod enc P w 0 (fun _ => true) true n ts cs = some x) : ∃ m, ∀ (i : Nat) (f : Field), fs[i]? = some f → ∃ v y, cs[i]? = some v ∧ DataW.trod enc P w 0 (fun _ => true) true m f.type [v] = some y ∧ y.1 ∈ partsOf x.1 := by
  obtain ⟨xs, m, _, rfl, hl, hxl, hf⟩ := DataW.trod_struct hs h
  refine ⟨m, fun i f hi => ?_⟩
  have hlt : i < fs.size := (Array.getElem?_eq_some_iff.1 hi).1
  obtain ⟨ho, hc1⟩ := Go.Deep.hone_of hone i f hi
  have g := hf i f hi
  rw [ho, hc1, Go.Deep.take1_drop cs i undef (by omega)] at g
  rw [List.getElem?_eq_getElem (by omega)] at g
  exact ⟨cs.getD i undef, _, by simp [List.getD, List.getElem?_eq_getElem (show i < cs.length by omega)], g, List.mem_map_of_mem (List.getElem_mem _)⟩

/-- An integer, as an element's cell. -/
theorem int_cell {t n : Nat} {k : IntKind} {u : Value} {x : DataW H × List MemPlace} (ht : P.underlying t = some (.int k)) (h : DataW.trod enc P w 0 (fun _ => true) true n t [u] = some x) :
    ∃ z, u = .int k z ∧ (Lit.int k z).wf = true := by
  obtain ⟨z, hz, _, hw⟩ := DataW.trod_int ht h
  exact ⟨z, by simpa using hz, hw⟩

/-- Integers that came in. -/
def IntsIn (k : IntKind) (L : List (Nat × Obj)) : Value → List Int → Prop := Els L fun v z => v = .int k z ∧ (Lit.int k z).wf = true

theorem ints_in {t e : TypeId} {k : IntKind} {v : Value} {d : DataW H} {ps : List MemPlace} (ht : P.underlying t = some (.slice e)) (he : P.underlying e = some (.int k)) (hc : P.cellsOf e = 1)
    (hs : ∃ a len cap, v = .slice a len cap) (h : DataW.Trod enc P w 0 (fun _ => true) true t v d ps) : ∃ zs : List Int, zs.length ≤ maxLen ∧ IntsIn k (oldL w) v zs :=
  els_in ht hc (fun _ _ _ h => int_cell he h) hs h

theorem ints_cell {t e n : Nat} {k : IntKind} {u : Value} {x : DataW H × List MemPlace} (ht : P.underlying t = some (.slice e)) (he : P.underlying e = some (.int k)) (hc : P.cellsOf e = 1)
    (h : DataW.trod enc P w 0 (fun _ => true) true n t [u] = some x) : ∃ zs : List Int, zs.length ≤ maxLen ∧ IntsIn k (oldL w) u zs := by
  have hs : ∃ a len cap, u = .slice a len cap := by
    rcases open_ints ht he hc h with ⟨hcs, _⟩ | ⟨y, l, c, zs, hcs, _⟩
    · simp at hcs; exact ⟨_, _, _, hcs⟩
    · simp at hcs; exact ⟨_, _, _, hcs⟩
  obtain ⟨a, l, c, rfl⟩ := hs
  exact ints_in (d := x.1) (ps := x.2) ht he hc ⟨a, l, c, rfl⟩ ⟨n, h⟩

/-- Bools that came in. -/
def BoolsIn (L : List (Nat × Obj)) : Value → List Bool → Prop := Els L fun v z => v = .bool z

theorem bool_cell {t n : Nat} {u : Value} {x : DataW H × List MemPlace} (ht : P.underlying t = some .bool) (h : DataW.trod enc P w 0 (fun _ => true) true n t [u] = some x) : ∃ z, u = .bool z := by
  cases n with
  | zero => simp [DataW.trod] at h
  | succ n =>
    unfold DataW.trod at h
    rw [ht] at h
    split at h <;> simp_all

theorem bools_in {t e : TypeId} {v : Value} {d : DataW H} {ps : List MemPlace} (ht : P.underlying t = some (.slice e)) (he : P.underlying e = some .bool) (hc : P.cellsOf e = 1)
    (hs : ∃ a len cap, v = .slice a len cap) (h : DataW.Trod enc P w 0 (fun _ => true) true t v d ps) : ∃ zs : List Bool, zs.length ≤ maxLen ∧ BoolsIn (oldL w) v zs :=
  els_in ht hc (fun _ _ _ h => bool_cell he h) hs h

end
end Go.Proofs.YtflfaiakenahlaaGreatDoor.V
end

section
/-
  The engine: slices whose cells are read where they lie, whatever they are; append onto one that has no room; a slice cut to its length.
-/
namespace Go.Proofs.YtflfaiakenahlaaGreatDoor.V

/-- n elements of sz cells each: their cells are cs. -/
inductive RdS (G : List (Nat × Obj)) (sz : Nat) : Value → Nat → List Value → Prop where
  | nil : RdS G sz (.slice none 0 0) 0 []
  | blk (b off n c : Nat) (cs : List Value) : cs.length = n * sz → n ≤ c → (∀ (i : Nat) v, cs[i]? = some v → Rd G ⟨b, off + i, none⟩ v) → RdS G sz (.slice (some ⟨b, off, none⟩) n c) n cs

section
variable {P : Program} {w : World} {e : Env} {ty t t2 : TypeId} {x y : Operand} {v u : Value} {G L L' B : List (Nat × Obj)} {sz n : Nat} {cs : List Value}

theorem RdS.sub (h : RdS G sz v n cs) (hs : ∀ p ∈ G, p ∈ L) : RdS L sz v n cs := by
  cases h with
  | nil => exact .nil
  | blk b off n c cs hl hc hr => exact .blk b off n c cs hl hc fun i v hi => (hr i v hi).sub hs

theorem RdS.len (h : RdS G sz v n cs) : ∃ a c, v = .slice a n c ∧ n ≤ c := by
  cases h with
  | nil => exact ⟨_, _, rfl, by simp⟩
  | blk b off n c cs hl hc hr => exact ⟨_, _, rfl, hc⟩

theorem RdS.src [Strm] (H : SL w L) (h : RdS L sz v n cs) : Src w sz v n cs := by
  cases h with
  | nil => exact .nil _
  | blk b off n c cs hl hc hr => exact .slice _ _ _ _ hl fun i v hi => by rw [add_none]; exact Rd.cell H (hr i v hi)

theorem RdS.count (h : RdS G sz v n cs) : cs.length = n * sz := by
  cases h with
  | nil => simp
  | blk b off n c cs hl hc hr => exact hl

theorem RdS.at {a : Option Addr} {n' c : Nat} (h : RdS G sz (.slice a n' c) n cs) (hn : 0 < n) : ∃ b off, a = some ⟨b, off, none⟩ ∧ ∀ (i : Nat) v, cs[i]? = some v → Rd G ⟨b, off + i, none⟩ v := by
  generalize hv : Value.slice a n' c = v at h
  cases h with
  | nil => omega
  | blk b off n c cs hl hc hr => cases hv; exact ⟨b, off, rfl, hr⟩

theorem Slc.rdS {α : Type} {g : α → List Value} {T : TypeId} {xs : List α} (h : Slc g sz T v xs B) (hg : ∀ x, (g x).length = sz) : RdS (B ++ L) sz v xs.length (xs.flatMap g) := by
  cases h with
  | nil => exact .nil
  | blk b xs cap spare fr h1 h2 h3 =>
    refine .blk b 0 _ cap _ (flatMap_length hg xs) h2 fun i v hi => ?_
    rw [Nat.zero_add]
    refine Rd.mk (.head _) ?_
    have hlt : i < (xs.flatMap g).length := by
      rcases Nat.lt_or_ge i (xs.flatMap g).length with h | h
      · exact h
      · rw [List.getElem?_eq_none h] at hi; cases hi
    rw [List.getElem?_toArray, List.getElem?_append_left hlt]
    exact hi

/-- 'x[:h:m]' with h = m. -/
theorem Ev.slCap {a : Option Addr} {len cap el : Nat} {h : Nat} {hi mx : Operand} {k k' : IntKind} (hx : e.val x = some (.slice a len cap)) (ht : slT P t = some (el, sz)) (hhi : e.val hi = some (.int k (h : Nat))) (hmx : e.val mx = some (.int k' (h : Nat)))
    (h2 : h ≤ cap) : Ev P w e (.slice t x none (some hi) (some mx)) ty (.slice a h h) := .of fun ρ hρ _ _ _ _ => by
  unfold slT at ht
  cases hu : P.underlying t with
  | none => rw [hu] at ht; cases ht
  | some d =>
    rw [hu] at ht
    cases d <;> first | (cases ht; done) | skip
    rename_i el'
    simp only at ht
    cases hn : P.info? el' with
    | none => rw [hn] at ht; cases ht
    | some inf =>
      rw [hn] at ht
      simp at ht
      obtain ⟨rfl, rfl⟩ := ht
      have hu1 := run_underlying (w := w) hu
      have hb : (Instr.sliceBounds true len cap (none.map ρ) ((some hi).map ρ) ((some mx).map ρ)).run P w = .ok (0, h, h) w := by
        simp [Instr.sliceBounds, Instr.sliceBound, hρ _ _ hhi, hρ _ _ hmx, asIntOf, h2]
      have ec : (if h = 0 then a else a.map (·.add (0 * inf.size))) = a := by
        split
        · rfl
        · cases a with
          | none => rfl
          | some a => simp [Addr.add]
      simp only [execOp, hρ _ _ hx, Instr.sliceAt, Instr.slice, Sem.run_bind, hu1, Result.andThen, hb, sizeOf, typeInfo, run_program, hn, Sem.run_pure, ec, Nat.sub_zero]

theorem RdS.takeS {α : Type} {g : α → List Value} {a : Option Addr} {n' c k : Nat} {xs : List α} (h : RdS G sz (.slice a n' c) xs.length (xs.flatMap g)) (hg : ∀ x, (g x).length = sz) (hk : k ≤ xs.length) :
    RdS G sz (.slice (cutAddr a 0 c sz) (k - 0) (c - 0)) (xs.take k).length ((xs.take k).flatMap g) := by
  rw [cutAddr_zero, Nat.sub_zero, Nat.sub_zero]
  have hl : (xs.take k).length = k := by rw [List.length_take]; omega
  generalize hn : xs.length = n at h hk
  generalize hcs : xs.flatMap g = cs at h
  generalize hv : Value.slice a n' c = v at h
  rw [hl]
  cases h with
  | nil =>
    cases hv
    obtain rfl : k = 0 := by omega
    exact .nil
  | blk b off n c cs h1 h2 h3 =>
    cases hv
    refine .blk b off k c _ (by rw [flatMap_length hg, hl]) (by omega) fun i v hi => h3 i v ?_
    rw [← hcs]
    have e1 : xs.flatMap g = (xs.take k).flatMap g ++ (xs.drop k).flatMap g := by rw [← List.flatMap_append, List.take_append_drop]
    rw [e1]
    have hlt : i < ((xs.take k).flatMap g).length := by
      rcases Nat.lt_or_ge i ((xs.take k).flatMap g).length with h | h
      · exact h
      · rw [List.getElem?_eq_none h] at hi; cases hi
    rw [List.getElem?_append_left hlt]
    exact hi

theorem RdS.dropS {α : Type} {g : α → List Value} {a : Option Addr} {n' c k : Nat} {xs : List α} (h : RdS G sz (.slice a n' c) xs.length (xs.flatMap g)) (hg : ∀ x, (g x).length = sz) (hk : k ≤ xs.length) :
    RdS G sz (.slice (cutAddr a k c sz) (xs.length - k) (c - k)) (xs.drop k).length ((xs.drop k).flatMap g) := by
  rw [List.length_drop]
  have hcnt := flatMap_length hg (xs.drop k)
  rw [List.length_drop] at hcnt
  have hct := flatMap_length hg (xs.take k)
  rw [List.length_take, Nat.min_eq_left hk] at hct
  generalize hn : xs.length = n at h hk hcnt
  generalize hcs : xs.flatMap g = cs at h
  generalize hv : Value.slice a n' c = v at h
  cases h with
  | nil =>
    cases hv
    obtain rfl : k = 0 := by omega
    have : xs = [] := List.eq_nil_of_length_eq_zero hn
    subst this
    rw [cutAddr_zero]
    exact .nil
  | blk b off n c cs h1 h2 h3 =>
    cases hv
    have key : ∀ (i : Nat) v, ((xs.drop k).flatMap g)[i]? = some v → Rd G ⟨b, off + (k * sz + i), none⟩ v := fun i v hi => h3 (k * sz + i) v (by
      rw [← hcs]
      have e1 : xs.flatMap g = (xs.take k).flatMap g ++ (xs.drop k).flatMap g := by rw [← List.flatMap_append, List.take_append_drop]
      rw [e1, List.getElem?_append_right (by omega), hct, Nat.add_sub_cancel_left]
      exact hi)
    by_cases hck : c = k
    · have e : cutAddr (some (⟨b, off, none⟩ : Addr)) k c sz = some ⟨b, off, none⟩ := by simp [cutAddr, hck]
      rw [e]
      have hx0 : xs.drop k = [] := List.drop_eq_nil_of_le (by omega)
      rw [hx0]
      rw [hx0] at hcnt
      exact .blk b off _ _ _ hcnt (by omega) fun i v hi => by simp at hi
    · have e : cutAddr (some (⟨b, off, none⟩ : Addr)) k c sz = some ⟨b, off + k * sz, none⟩ := by simp [cutAddr, hck, add_none]
      rw [e]
      exact .blk b (off + k * sz) _ _ _ hcnt (by omega) fun i v hi => by rw [Nat.add_assoc]; exact key i v hi

/-- Append onto a slice that has no room: a row of one's own. -/
theorem Ex.appendNew [Strm] {α : Type} {g : α → List Value} {by_ : Nat} {T : TypeId} {zv : Value} {xs ys : List α} {a : Option Addr} {cap : Nat} (H : SL w L) (hx : e.val x = some (.slice a xs.length cap)) (hy : e.val y = some u) (hs : RdS L sz (.slice a xs.length cap) xs.length (xs.flatMap g))
    (hsrc : Src w sz u ys.length (ys.flatMap g)) (hroom : cap < xs.length + ys.length) (hg : ∀ x, (g x).length = sz) (ht : slT P t = some (T, sz)) (h2 : srcT P t2 = true) (hby : bytesT P T = some by_)
    (hz : zeroT P T = some zv) (hzs : zv.cells.size = sz) (h63 : xs.length + ys.length ≤ 9223372036854775807) (hbytes : (xs.length + ys.length) * by_ ≤ 140737488355328) :
    Ex P w e (.call ⟨.builtin .append, #[x, y], #[t, t2]⟩) ty fun v' w' => ∃ B', Slc g sz T v' (xs ++ ys) B' ∧ SL w' (B' ++ L) := .of fun ρ hρ _ _ _ _ => by
  have hxs := flatMap_length hg xs
  have hfo : ∀ w', w'.heap = w.heap → (Builtin.firstCells sz xs.length (.slice a xs.length cap)).run P w' = .ok (xs.flatMap g).toArray w' := fun w' hw => by
    have h1 := (hs.src H).drew hw
    exact h1.first
  obtain ⟨w', cap', hr, hc, hh, hk⟩ := run_append_out (P := P) (t := t) (t2 := t2) (ty := ty) ht hby hz h2 hsrc hfo hroom h63 hbytes
  have e1 : (execOp ρ ⟨‹_›, .call ⟨.builtin .append, #[x, y], #[t, t2]⟩, ty, ‹_›, ‹_›, ‹_›⟩).run P w = .ok (.value (.slice (some ⟨w.heap.size, 0, none⟩) (xs.length + ys.length) cap')) w' := by
    simp [execOp, resolve, invoke, builtin, hρ _ _ hx, hρ _ _ hy, hr]
  rw [e1]
  refine ⟨[(w.heap.size, .cells ((xs ++ ys).flatMap g ++ (Builtin.zeroCells zv.cells (cap' - (xs.length + ys.length))).toList).toArray T (0, 0))], ?_, ?_⟩
  · have := Slc.blk (g := g) (sz := sz) (T := T) w.heap.size (xs ++ ys) cap' (Builtin.zeroCells zv.cells (cap' - (xs.length + ys.length))).toList (0, 0) (by rw [zeroCells_len, hzs, List.length_append, ← Nat.add_mul]; congr 1; omega) (by simpa using hc) (Thaw.zero _ _)
    simpa using this
  · have h3 := H.alloc (.cells (xs.flatMap g ++ ys.flatMap g ++ (Builtin.zeroCells zv.cells (cap' - (xs.length + ys.length))).toList).toArray T (0, 0))
    have h4 := h3.heap (w' := w') hh hk
    simpa [List.flatMap_append] using h4

/-- Two results, of which the first lies in memory (a whole block). -/
theorem RunsE.retAggTmp [Strm] {f : FuncId} {Post : Value → World → Prop} {k : List Item} {n : Nat} {fn : Func} {t t' b m : Nat} {ty T : TypeId} {fr : Nat × Nat} {vs : List Value} {v' : Value} {L : List (Nat × Obj)}
    (H : SL w L) (hf : P.funcs[f]? = some fn) (hr : fn.results = #[.cell t ty, .tmp t']) (ht : e.get t = some (.pointer (some ⟨b, 0, none⟩))) (ht' : e.get t' = some v')
    (ha : aggT P ty = some m) (hn : vs.length = m) (hm : (b, Obj.cells vs.toArray T fr) ∈ L) (h : Post (.tuple #[.agg vs.toArray, v']) w) :
    RunsE P ⟨f, none, []⟩ (fun e w' => ∃ v, e = .returned v ∧ Post v w') n (.code .ret :: k) e w := .of fun a ha' => by
  have hl : (loadVar ty ⟨b, 0, none⟩).run P w = .ok (.agg vs.toArray) w := run_loadVar_agg (by rw [ha, hn]) fun i v hv => Rd.cell H (by rw [add_none, Nat.zero_add]; exact Rd.mk hm (by simpa using hv))
  exact .ret hf ha'.defers (by simp [results, hr, ha'.vals t _ ht, ha'.vals t' _ ht', asAddr, hl]) ⟨_, rfl, h⟩

end

abbrev SE := Option Addr × Nat × Nat
abbrev gS (u : SE) : List Value := [.slice u.1 u.2.1 u.2.2]

/-- Slices of bytes, each with what is read there. -/
structure BytesIn (F : List (Nat × Obj)) (us : List SE) (P : List (List UInt8)) : Prop where
  len : us.length = P.length
  el : ∀ (i : Nat) u, us[i]? = some u → Inp F (.slice u.1 u.2.1 u.2.2) (P.getD i [])

theorem BytesIn.sub {F F' : List (Nat × Obj)} {us : List SE} {P : List (List UInt8)} (h : BytesIn F us P) (hs : ∀ p ∈ F, p ∈ F') : BytesIn F' us P := ⟨h.len, fun i u hi => (h.el i u hi).sub hs⟩

theorem BytesIn.set {F : List (Nat × Obj)} {us : List SE} {P : List (List UInt8)} (h : BytesIn F us P) {p : Nat} {u : SE} {bs : List UInt8} (hu : Inp F (.slice u.1 u.2.1 u.2.2) bs) (hp : p < P.length) : BytesIn F (us.set p u) (P.set p bs) := by
  refine ⟨by simp [h.len], fun i x hi => ?_⟩
  have hpl : p < us.length := by rw [h.len]; exact hp
  by_cases hip : p = i
  · subst hip
    rw [List.getElem?_set_self hpl] at hi
    cases hi
    simpa [List.getD_eq_getElem?_getD, hp] using hu
  · rw [List.getElem?_set_ne hip] at hi
    have := h.el i x hi
    simpa [List.getD_eq_getElem?_getD, List.getElem?_set_ne hip] using this

theorem gS_set {us : List SE} {sp : List Value} {p : Nat} (hp : p < us.length) (u : SE) : (us.flatMap gS ++ sp).toArray.setIfInBounds p (.slice u.1 u.2.1 u.2.2) = ((us.set p u).flatMap gS ++ sp).toArray := by
  have hm : ∀ l : List SE, l.flatMap gS = l.map fun u => Value.slice u.1 u.2.1 u.2.2 := fun l => flatMap_one _ l
  rw [hm, hm]
  apply Array.ext'
  simp only [Array.toList_setIfInBounds]
  rw [List.set_append_left _ _ (by simpa using hp), List.map_set]

end Go.Proofs.YtflfaiakenahlaaGreatDoor.V
end

section
/-
  The engine: maps of one's own, keyed by arrays of bytes.
-/
namespace Go.Proofs.YtflfaiakenahlaaGreatDoor.V
open Go.ChangeShapes Go.WideShapes

abbrev hV (h : List UInt8) : Value := .agg (h.map BV).toArray

theorem mapM_some {α β : Type} {f : α → Option β} {g : α → β} : ∀ {l : List α}, (∀ x ∈ l, f x = some (g x)) → l.mapM f = some (l.map g)
  | [], _ => rfl
  | x :: r, h => by
    rw [List.mapM_cons, h x (.head _), mapM_some fun y hy => h y (.tail _ hy)]
    rfl

theorem u8_wf (b : UInt8) : (Lit.int .u8 (b.toNat : Int)).wf = true := by
  have := b.toNat_lt
  simp [Lit.wf, IntKind.min, IntKind.max, IntKind.signed, IntKind.bits]
  omega

/-- An array of bytes is a key. -/
theorem keyOf_bytes {P : Program} {k el n : Nat} {h : List UInt8} (hk : P.underlying k = some (.array n el)) (he : P.underlying el = some (.int .u8)) (hc : P.cellsOf el = 1) (hck : P.cellsOf k = n) (hkt : P.keyType k = true) (hp : 0 < P.types.size) (hn : h.length = n) :
    ∃ l, keyOf P k (hV h) = some l := by
  have hf : (hV h).formed P k = true := by simp [Value.formed, hk, hck, hn]
  have hd : ∃ d, P.types.size + 1 = d + 2 := ⟨P.types.size - 1, by omega⟩
  obtain ⟨d, hd⟩ := hd
  have hl : P.keyLits (P.types.size + 1) k (hV h).cells.toList = some (((List.range n).map fun i => [Lit.int .u8 ((h.getD i 0).toNat : Int)]).flatten) := by
    rw [hd]
    unfold Program.keyLits
    simp only [hk, Value.cells, List.length_map, hn, hck, if_true, hc, Nat.mul_one]
    rw [mapM_some (g := fun i => [Lit.int .u8 ((h.getD i 0).toNat : Int)])]
    · rfl
    · intro i hi
      have hi' := List.mem_range.1 hi
      have e1 : ((h.map BV).drop i).take 1 = [BV (h.getD i 0)] := by
        rw [List.drop_eq_getElem_cons (by simp; omega)]
        simp [List.getD_eq_getElem?_getD, show i < h.length by omega]
      rw [e1]
      unfold Program.keyLits
      simp only [he]
      rw [if_pos ⟨trivial, u8_wf _⟩]
  unfold keyOf
  simp only [hk, hkt, hf, Bool.and_self, if_true, hl, Option.map_some]
  exact ⟨_, rfl⟩

/-- The type t: maps from arrays of n bytes to v. -/
structure MapT (P : Program) (t k v n : Nat) : Prop where
  map : P.underlying t = some (.map k v)
  keyed : Maps.Keyed P k
  key : ∀ h : List UInt8, h.length = n → ∃ l, keyOf P k (hV h) = some l

theorem MapT.of {P : Program} {t k v n el m : Nat} (hl : laidOutB P = true) (ht : P.underlying t = some (.map k v)) (hk : P.underlying k = some (.array n el)) (he : P.underlying el = some (.int .u8)) (hc : P.cellsOf el = 1) (hck : P.cellsOf k = n)
    (hkt : P.keyType k = true) (hrow : k < P.types.size) (hm : m + 1 ≤ 10000) (hkm : P.keyTypeAt m k = true) : MapT P t k v n :=
  ⟨ht, Maps.Keyed.of_law (deep_law_laid hl hm hrow hkm (by rw [hk])), fun _ hn => keyOf_bytes hk he hc hck hkt (by omega) hn⟩

/-- Entries: keys of n bytes each. -/
abbrev Ent := List UInt8 × Value × Nat
def entM (x : Ent) : MapEntry := { key := hV x.1, val := x.2.1, born := x.2.2 }
def mapO (es : List Ent) (clock : Nat) : Obj := .map (es.map entM).toArray clock

theorem bv_inj {a b : List UInt8} (h : hV a = hV b) : a = b := by
  have h1 := Array.toList_inj.2 (Value.agg.inj h)
  simp only at h1
  refine (List.map_inj_right ?_).1 h1
  intro x y hxy
  have : (x.toNat : Int) = y.toNat := (Value.int.inj hxy).2
  exact UInt8.toNat_inj.1 (by omega)

section
variable {P : Program} {w : World} {e : Env} {ty t k v n : TypeId} {x y z : Operand} {L L' : List (Nat × Obj)}

theorem Ex.makeMap [Strm] (H : SL w L) : Ex P w e (.makeMap t none) ty fun u w' => ∃ b, u = .map (some b) ∧ SL w' ((b, mapO [] 0) :: L) := .of fun ρ hρ _ _ _ _ => by
  simp only [execOp, Option.map_none, Instr.makeMap, Sem.run_bind, run_newObj, Result.andThen, Sem.run_pure]
  exact ⟨w.heap.size, rfl, H.alloc _⟩

/-- What is found at a key. -/
def atKey (es : List Ent) (h : List UInt8) : Option Ent := es.find? fun x => x.1 == h

theorem find_run (T : MapT P t k v n) {es : List Ent} {h : List UInt8} (hn : ∀ x ∈ es, x.1.length = n) (hh : h.length = n) :
    ((Instr.findKey k (hV h) (es.map entM)).run P w = .ok none w ∧ ∀ x ∈ es, x.1 ≠ h) ∨ ∃ j x, (Instr.findKey k (hV h) (es.map entM)).run P w = .ok (some (j, x.2.1)) w ∧ es[j]? = some x ∧ x.1 = h := by
  obtain ⟨l, hl⟩ := T.key h hh
  rcases T.keyed.find w hl (es.map entM) (fun e he => by obtain ⟨x, hx, rfl⟩ := List.mem_map.1 he; exact T.key _ (hn x hx)) with ⟨h1, h2⟩ | ⟨j, e0, h1, h2, h3⟩
  · exact .inl ⟨h1, fun x hx he => h2 _ (List.mem_map_of_mem (f := entM) hx) (by rw [← he]; rfl)⟩
  · rw [List.getElem?_map] at h2
    obtain ⟨x, hx, rfl⟩ := Option.map_eq_some_iff.1 h2
    exact .inr ⟨j, x, h1, hx, bv_inj h3⟩

/-- 'm[k]', without its ok. -/
theorem Ev.lookup [Strm] {b clock : Nat} {es : List Ent} {h : List UInt8} {zv : Value} (H : SL w L) (T : MapT P t k v n) (hx : e.val x = some (.map (some b))) (hy : e.val y = some (hV h)) (hm : (b, mapO es clock) ∈ L)
    (hn : ∀ x ∈ es, x.1.length = n) (hh : h.length = n) (hz : zeroT P v = some zv) {r : Value} (hr : (∀ x ∈ es, x.1 ≠ h) → r = zv) (hr2 : ∀ (j : Nat) x, es[j]? = some x → x.1 = h → r = x.2.1) : Ev P w e (.lookup t x y false) ty r := .of fun ρ hρ _ _ _ _ => by
  have hb := H.1 _ hm
  simp only [mapO] at hb
  obtain ⟨l, hl⟩ := T.key h hh
  have hc := T.keyed.check w ((es.map entM).toArray.isEmpty) hl
  have hzr : (zeroValue v).run P w = .ok zv w := by
    unfold zeroT at hz
    cases hi : P.info? v with
    | none => rw [hi] at hz; cases hz
    | some i => rw [hi] at hz; simp only [Option.bind_some] at hz; simp [zeroValue, typeInfo, hi, hz]
  simp only [execOp, hρ _ _ hx, hρ _ _ hy, Instr.lookup, Sem.run_bind, run_underlying T.map, Result.andThen, MapKept.run_getObj_map hb, Sem.run_pure, hc]
  rcases find_run (w := w) T hn hh with ⟨h1, h2⟩ | ⟨j, x, h1, h2, h3⟩
  · simp [h1, hzr, hr h2]
  · simp [h1, hr2 j x h2 h3]

/-- 'm[k] = v'. -/
theorem Ex.mapUpdate [Strm] {b clock : Nat} {es : List Ent} {h : List UInt8} {u : Value} {M : Obj → List (Nat × Obj)} (H : SL w (M (mapO es clock))) (T : MapT P t k v n) (hx : e.val x = some (.map (some b))) (hy : e.val y = some (hV h)) (hv : e.val z = some u)
    (hu : ∀ o', Upd b (mapO es clock) o' (M (mapO es clock)) (M o')) (hn : ∀ x ∈ es, x.1.length = n) (hh : h.length = n) :
    Ex P w e (.mapUpdate t x y z) ty fun _ w' => ((∀ x ∈ es, x.1 ≠ h) ∧ SL w' (M (mapO (es ++ [(h, u, clock)]) (clock + 1)))) ∨ ∃ j x, es[j]? = some x ∧ x.1 = h ∧ SL w' (M (mapO (es.set j (h, u, x.2.2)) clock)) := .of fun ρ hρ _ _ _ _ => by
  have hb0 := H.1 _ (hu (mapO es clock)).mem
  have hb := hb0
  simp only [mapO] at hb
  obtain ⟨l, hl⟩ := T.key h hh
  have hc := T.keyed.check w false hl
  have hlt : b < w.heap.size := by
    rcases Nat.lt_or_ge b w.heap.size with h | h
    · exact h
    · rw [Array.getElem?_eq_none h] at hb; cases hb
  have fin : ∀ o', SL { w with heap := w.heap.setIfInBounds b o' } (M o') := fun o' => by
    refine H.upd (hu o') (by simp [hlt]) (fun c hc => ?_) ⟨rfl, rfl, rfl⟩
    simp [Ne.symm hc]
  simp only [execOp, hρ _ _ hx, hρ _ _ hy, hρ _ _ hv, Instr.mapUpdate, Sem.run_bind, run_underlying T.map, Result.andThen, MapKept.run_getObj_map hb, hc]
  rcases find_run (w := w) T hn hh with ⟨h1, h2⟩ | ⟨j, x, h1, h2, h3⟩
  · simp only [h1, MapKept.run_setObj_map _ hb]
    have e1 : Obj.map ((es.map entM).toArray.push { key := hV h, val := u, born := clock }) (clock + 1) = mapO (es ++ [(h, u, clock)]) (clock + 1) := by
      simp [mapO, entM]
    rw [e1]
    exact .inl ⟨h2, fin _⟩
  · obtain ⟨xk, xv, xb⟩ := x
    simp only at h3
    subst h3
    have e0 : ((((es.map entM).toArray[j]?).map (·.key)).getD (hV xk)) = hV xk := by
      simp [h2, entM]
    have hst := T.keyed.stays w hl
    simp only [h1, e0, hst, Sem.run_bind, Result.andThen, MapKept.run_setObj_map _ hb]
    have e1 : Obj.map ((es.map entM).toArray.modify j fun e => { e with key := hV xk, val := u }) clock = mapO (es.set j (xk, u, xb)) clock := by
      simp only [mapO]
      congr 1
      apply Array.ext_getElem?
      intro i
      simp only [Array.getElem?_modify, List.getElem?_toArray, List.getElem?_map, List.getElem?_set]
      by_cases hji : j = i
      · subst hji
        have hlt' : j < es.length := by
          rcases Nat.lt_or_ge j es.length with h | h
          · exact h
          · rw [List.getElem?_eq_none h] at h2; cases h2
        rw [h2]
        simp [hlt', entM]
      · simp [hji]
    rw [e1]
    exact .inr ⟨j, _, h2, rfl, fin _⟩
end

/-! ### Many rows of one's own -/

/-- Things in a row, each with blocks of its own. -/
inductive Many {α β : Type} (R : α → β → List (Nat × Obj) → Prop) : List α → List β → List (Nat × Obj) → Prop where
  | nil : Many R [] [] []
  | cons {a : α} {x : β} {aas : List α} {xs : List β} {B Bs : List (Nat × Obj)} : R a x B → Many R aas xs Bs → Many R (a :: aas) (x :: xs) (B ++ Bs)

section
variable {α β : Type} {R : α → β → List (Nat × Obj) → Prop} {aas : List α} {xs : List β} {B : List (Nat × Obj)}
theorem Many.length (h : Many R aas xs B) : aas.length = xs.length := by
  induction h with
  | nil => rfl
  | cons _ _ ih => simp [ih]

theorem Many.at (h : Many R aas xs B) : ∀ {i : Nat} {a : α}, aas[i]? = some a → ∃ x B1 Bi B2, xs[i]? = some x ∧ B = B1 ++ (Bi ++ B2) ∧ R a x Bi ∧ ∀ a' x' Bi', R a' x' Bi' → Many R (aas.set i a') (xs.set i x') (B1 ++ (Bi' ++ B2)) := by
  induction h with
  | nil => intro i a h; simp at h
  | cons hr hm ih =>
    rename_i a0 x0 aas xs B Bs
    intro i a hi
    cases i with
    | zero =>
      simp at hi
      subst hi
      exact ⟨x0, [], B, Bs, rfl, rfl, hr, fun a' x' Bi' h' => by simpa using Many.cons h' hm⟩
    | succ i =>
      simp at hi
      obtain ⟨x, B1, Bi, B2, h1, rfl, h3, h4⟩ := ih hi
      exact ⟨x, B ++ B1, Bi, B2, by simpa using h1, by simp, h3, fun a' x' Bi' h' => by
        have := Many.cons hr (h4 a' x' Bi' h')
        simpa using this⟩

theorem Many.push {a : α} {x : β} {Bi : List (Nat × Obj)} (h : Many R aas xs B) (hr : R a x Bi) : Many R (aas ++ [a]) (xs ++ [x]) (B ++ Bi) := by
  induction h with
  | nil => simpa using Many.cons hr .nil
  | cons h0 _ ih =>
    have := Many.cons h0 ih
    simpa using this

theorem Many.imp {R' : α → β → List (Nat × Obj) → Prop} (h : Many R aas xs B) (hi : ∀ a x B, R a x B → R' a x B) : Many R' aas xs B := by
  induction h with
  | nil => exact .nil
  | cons h0 _ ih => exact .cons (hi _ _ _ h0) ih
end

end Go.Proofs.YtflfaiakenahlaaGreatDoor.V
end

section
/-
  The engine: append of a make; a call of a function that has no body; two slices that lie apart.
-/
namespace Go.Proofs.YtflfaiakenahlaaGreatDoor.V

section
variable {P : Program} {w : World} {e : Env} {ty t t2 : TypeId} {x y z : Operand} {v u : Value} {L L' B : List (Nat × Obj)}

/-- 'append(s, make([]int, m)...)', beyond the room there is. -/
theorem Ex.appendMake [Strm] {el n m cap : Nat} {a : Option Addr} {vs : List Value} (H : SL w L) (hx : e.val x = some (.slice a n cap)) (hy : e.val y = some (.int .i64 (m : Nat))) (hs : RdS L 1 (.slice a n cap) n vs)
    (h0 : 0 < m) (hroom : cap < n + m) (hbig : n + m ≤ 1000000) (ht : slT P t = some (el, 1)) (hu2 : P.underlying t2 = some (.int .i64)) (hby : bytesT P el = some 8) (hz : zeroT P el = some (.int .i64 0)) :
    Ex P w e (.call ⟨.builtin .append, #[x, y], #[t, t2]⟩) ty fun v' w' => ∃ b cap', v' = .slice (some ⟨b, 0, none⟩) (n + m) cap' ∧ n + m ≤ cap' ∧ SL w' ((b, .cells (vs ++ List.replicate (cap' - n) (Value.int .i64 0)).toArray el (0, 0)) :: L) := .of fun ρ hρ _ _ _ _ => by
  obtain ⟨hu, inf, hi, hsz⟩ := slT_spec ht
  simp only [bytesT, hi, Option.map_some, Option.some.injEq] at hby
  simp only [zeroT, hi, Option.bind_some] at hz
  have hfit := growslice_fits (bytes := inf.bytes) hroom (by rw [hby]; omega)
  have hn : ¬ (n + m ≤ cap) := by omega
  have h63' : ¬ (9223372036854775807 < ((n : Int) + (m : Int))) := by omega
  have h48' : ¬ (281474976710656 < Builtin.nextslicecap (n + m) cap * inf.bytes) := by omega
  have hwr : IntKind.i64.wrap (m : Int) = (m : Int) := qi64 (by omega) (by omega)
  have hneg : ¬ ((m : Int) < 0) := by omega
  have hm48 : ¬ ((281474976710656 : Int) < (m : Int) * inf.bytes) := by rw [hby]; omega
  have hfo := ((hs.src H).drew (w' := w.drew) rfl).first (P := P)
  have hcl := hs.count
  obtain ⟨cap', hcap'⟩ : ∃ c, c = grownCap w (n + m) cap el := ⟨_, rfl⟩
  have hge : n + m ≤ cap' := by rw [hcap']; exact grownCap_ge _ _ _ _
  have hm1 : m ≠ 0 := by omega
  have hrun : (Builtin.append_ #[t, t2] ty #[.slice a n cap, .int .i64 (m : Nat)]).run P w = .ok (.slice (some ⟨w.heap.size, 0, none⟩) (n + m) cap')
      (w.drew.alloc (.cells (vs ++ List.replicate (cap' - n) (Value.int .i64 0)).toArray el)) := by
    have e1 : ∀ k, (Builtin.zeroCells #[Value.int .i64 0] k).toList = List.replicate k (Value.int .i64 0) := fun k => by
      apply List.ext_getElem?
      intro i
      simp [Builtin.zeroCells, List.getElem?_replicate]
      by_cases hik : i < k
      · simp [hik, Nat.mod_one]
      · simp [hik]
    have e2 : ∀ k, Builtin.zeroCells #[Value.int .i64 0] k = (List.replicate k (Value.int .i64 0)).toArray := fun k => by
      apply Array.ext'
      rw [e1]
    have e3 : (vs ++ (List.replicate m (Value.int .i64 0) ++ List.replicate (cap' - (n + m)) (Value.int .i64 0))) = vs ++ List.replicate (cap' - n) (Value.int .i64 0) := by
      rw [List.replicate_append_replicate]
      congr 2
      omega
    rw [← e3]
    subst hcap'
    simp [Builtin.append_, run_underlying hu, run_underlying hu2, sizeOf, typeInfo, zeroValue, asInt, asIntOf, hi, hsz, hz, hn, h63', h48', hwr, hneg, hm48, hm1, Question.forced, hfo, newRow, grownCap, Value.cells, e2]
    congr 2
    apply Array.ext'
    simp
  have e1 : (execOp ρ ⟨‹_›, .call ⟨.builtin .append, #[x, y], #[t, t2]⟩, ty, ‹_›, ‹_›, ‹_›⟩).run P w = .ok (.value (.slice (some ⟨w.heap.size, 0, none⟩) (n + m) cap')) (w.drew.alloc (.cells (vs ++ List.replicate (cap' - n) (Value.int .i64 0)).toArray el)) := by
    simp [execOp, resolve, invoke, builtin, hρ _ _ hx, hρ _ _ hy, hrun]
  rw [e1]
  refine ⟨w.heap.size, cap', rfl, hge, ?_⟩
  have h3 := H.alloc (.cells (vs ++ List.replicate (cap' - n) (Value.int .i64 0)).toArray el (0, 0))
  exact h3.heap rfl ⟨rfl, rfl, rfl⟩

/-- A call of a function that has no body. -/
theorem Ex.callX {f : FuncId} {l : List Operand} {vs : List Value} {ats : Array TypeId} {w' : World} (hl : e.vals l = some vs) (hc : (callFunc f vs.toArray).run P w = .ok (.value v) w') :
    Ex P w e (.call ⟨.value (.func f), l.toArray, ats⟩) ty fun u w2 => u = v ∧ w2 = w' := .of fun ρ hρ _ _ _ _ => by
  have h1 := Env.vals_map hρ hl
  have h2 : ρ (.func f) = .func (.func f) #[] #[] := hρ _ _ rfl
  have h3 : (execOp ρ ⟨‹_›, .call ⟨.value (.func f), l.toArray, ats⟩, ty, ‹_›, ‹_›, ‹_›⟩).run P w = .ok (.value v) w' := by
    simp [execOp, resolve, h2, Deferred.ofValue, invoke, h1, hc]
  rw [h3]
  exact ⟨rfl, rfl⟩

/-- A literal of one element, which is a struct or an array. -/
theorem Ex.buildOne [Strm] {sz : Nat} {cs : List Value} {T : TypeId} {zv : Value} (H : SL w L) (hx : e.val x = some (.agg cs.toArray)) (ht : slT P t = some (T, sz)) (hz : zeroT P T = some zv) (hcs : cs.length = sz) (h0 : 0 < sz) (h24 : sz ≤ 16777216) :
    Ex P w e (.buildSlice t 1 #[(0, x)]) ty fun v w' => ∃ b, v = .slice (some ⟨b, 0, none⟩) 1 1 ∧ SL w' ((b, .cells cs.toArray T (0, 0)) :: L) := by
  refine Ex.buildSlP (len := 1) (l := [(0, x)]) (ps := [(0, .agg cs.toArray)]) (sz := sz) (cs := cs) (zv := zv) H (by simp [Env.partsI, hx]) ht hz ?_ (by omega) (by omega)
  unfold fillP
  simp only [Nat.zero_mul, Value.cells, List.size_toArray, hcs, Nat.zero_add, List.length_map, List.length_range, Nat.one_mul, Nat.le_refl, and_self, if_true, fillP]
  rw [putAt_all (by simp [hcs])]

theorem shape_of {w : World} {b : Nat} {cs : Array Value} {T : TypeId} {fr : Nat × Nat} (h : w.heap[b]? = some (.cells cs T fr)) : w.shape? b = some (T, cs.size) := by simp [World.shape?, h]
theorem thaw_of {w : World} {b off : Nat} {cs : Array Value} {T : TypeId} (h : w.heap[b]? = some (.cells cs T (0, 0))) : w.frozen? ⟨b, off, none⟩ = false := by simp [World.frozen?, h]

end
end Go.Proofs.YtflfaiakenahlaaGreatDoor.V
end
