/-
  The engine: what the single operations do ('Ev': a value, the world as it was; 'Ex': whatever else). Memory is told by 'SL': the blocks that are known, each with what it holds.
-/
import Derived.Test.YtniihnncgblocaaDoorVDraw
import Derived.Test.YtniihnncgblocaaDoorVNum
import Derived.WalkKit
namespace Go.Proofs.YtniihnncgblocaaDoor.V

/-! ## Memory -/

/-- What the streams are, in all that follows. -/
class Strm where
  tape : Nat → Question → Nat
  os : Os
  output : Array (Nat × ByteArray)

/-- The streams are those. -/
def Kept [Strm] (w : World) : Prop := w.tape = Strm.tape ∧ w.os = Strm.os ∧ w.output = Strm.output

theorem Kept.of [Strm] {w w' : World} (h : Kept w) (hk : Same w w') : Kept w' := ⟨hk.1.trans h.1, hk.2.1.trans h.2.1, hk.2.2.trans h.2.2⟩

/-- The blocks of L lie in w, each once; the streams are as they were. -/
def SL [Strm] (w : World) (L : List (Nat × Obj)) : Prop := (∀ p ∈ L, w.heap[p.1]? = some p.2) ∧ (L.map Prod.fst).Nodup ∧ Kept w

theorem SL.heap [Strm] {w w' : World} {L : List (Nat × Obj)} (h : SL w L) (he : w'.heap = w.heap) (hk : Same w w') : SL w' L := ⟨fun p hp => he ▸ h.1 p hp, h.2.1, h.2.2.of hk⟩

theorem SL.drew [Strm] {w : World} {L : List (Nat × Obj)} (h : SL w L) (d : Nat) : SL { w with drawn := d } L := h

theorem SL.perm [Strm] {w : World} {L L' : List (Nat × Obj)} (h : SL w L) (hp : L'.Perm L) : SL w L' :=
  ⟨fun p hm => h.1 p (hp.subset hm), ((hp.map _).nodup_iff).2 h.2.1, h.2.2⟩

theorem SL.lt [Strm] {w : World} {L : List (Nat × Obj)} (h : SL w L) {p : Nat × Obj} (hp : p ∈ L) : p.1 < w.heap.size := by
  rcases Nat.lt_or_ge p.1 w.heap.size with hlt | hge
  · exact hlt
  · have := h.1 p hp
    rw [Array.getElem?_eq_none hge] at this
    cases this

theorem SL.alloc [Strm] {w : World} {L : List (Nat × Obj)} (h : SL w L) (o : Obj) : SL { w with heap := w.heap.push o } ((w.heap.size, o) :: L) := by
  refine ⟨fun p hp => ?_, ?_, h.2.2⟩
  · rcases List.mem_cons.1 hp with rfl | hp
    · simp
    · have hlt := h.lt hp
      have := h.1 p hp
      show (w.heap.push o)[p.1]? = _
      rw [Array.getElem?_push, if_neg (by omega)]
      exact this
  · refine List.nodup_cons.2 ⟨fun hm => ?_, h.2.1⟩
    obtain ⟨p, hp, he⟩ := List.mem_map.1 hm
    have := h.lt hp
    omega

/-- L' is L with another object in the block b. -/
inductive Upd (b : Nat) (o o' : Obj) : List (Nat × Obj) → List (Nat × Obj) → Prop where
  | head {l : List (Nat × Obj)} : Upd b o o' ((b, o) :: l) ((b, o') :: l)
  | tail {x : Nat × Obj} {l l' : List (Nat × Obj)} : Upd b o o' l l' → Upd b o o' (x :: l) (x :: l')

theorem Upd.keys {b : Nat} {o o' : Obj} {L L' : List (Nat × Obj)} (h : Upd b o o' L L') : L'.map Prod.fst = L.map Prod.fst := by
  induction h with
  | head => rfl
  | tail _ ih => simp [ih]

theorem Upd.mem {b : Nat} {o o' : Obj} {L L' : List (Nat × Obj)} (h : Upd b o o' L L') : (b, o) ∈ L := by
  induction h with
  | head => exact .head _
  | tail _ ih => exact .tail _ ih

theorem Upd.mem_or {b : Nat} {o o' : Obj} {L L' : List (Nat × Obj)} (h : Upd b o o' L L') (hn : (L.map Prod.fst).Nodup) : ∀ p ∈ L', p = (b, o') ∨ (p ∈ L ∧ p.1 ≠ b) := by
  induction h with
  | head =>
    intro p hp
    rcases List.mem_cons.1 hp with rfl | hp
    · exact .inl rfl
    · refine .inr ⟨.tail _ hp, fun he => ?_⟩
      have := (List.nodup_cons.1 hn).1
      have h2 : p.1 ∈ List.map Prod.fst _ := List.mem_map_of_mem (f := Prod.fst) hp
      exact this (he ▸ h2)
  | tail hu ih =>
    rename_i x l l'
    intro p hp
    rcases List.mem_cons.1 hp with rfl | hp
    · refine .inr ⟨.head _, fun he => ?_⟩
      have h1 := (List.nodup_cons.1 hn).1
      have h2 : b ∈ l.map Prod.fst := List.mem_map_of_mem (f := Prod.fst) hu.mem
      exact h1 (he ▸ h2)
    · rcases ih (List.nodup_cons.1 hn).2 p hp with h | h
      · exact .inl h
      · exact .inr ⟨.tail _ h.1, h.2⟩

theorem SL.upd [Strm] {w w' : World} {L L' : List (Nat × Obj)} {b : Nat} {o o' : Obj} (h : SL w L) (hu : Upd b o o' L L') (hb : w'.heap[b]? = some o')
    (hx : ∀ c, c ≠ b → w'.heap[c]? = w.heap[c]?) (hk : Same w w') : SL w' L' := by
  refine ⟨fun p hp => ?_, hu.keys ▸ h.2.1, h.2.2.of hk⟩
  rcases hu.mem_or h.2.1 p hp with rfl | ⟨hm, hne⟩
  · exact hb
  · rw [hx _ hne]; exact h.1 p hm

/-- The cell at a, read in L. -/
def Rd (L : List (Nat × Obj)) (a : Addr) (v : Value) : Prop := ∃ cs T fr, (a.block, Obj.cells cs T fr) ∈ L ∧ a.spot = none ∧ cs[a.off]? = some v

theorem Rd.mk {L : List (Nat × Obj)} {b off : Nat} {cs : Array Value} {T : TypeId} {fr : Nat × Nat} {v : Value} (hm : (b, Obj.cells cs T fr) ∈ L) (hc : cs[off]? = some v) : Rd L ⟨b, off, none⟩ v :=
  ⟨cs, T, fr, hm, rfl, hc⟩

theorem Rd.cellH {w : World} {L : List (Nat × Obj)} (h : ∀ p ∈ L, w.heap[p.1]? = some p.2) {a : Addr} {v : Value} (hr : Rd L a v) : w.cell? a = some v := by
  obtain ⟨cs, T, fr, hm, hs, hc⟩ := hr
  have := h _ hm
  simp only [World.cell?] at *
  rw [this]
  simp [hs, hc]

theorem Rd.cell [Strm] {w : World} {L : List (Nat × Obj)} (h : SL w L) {a : Addr} {v : Value} (hr : Rd L a v) : w.cell? a = some v := hr.cellH h.1

theorem Rd.sub {L L' : List (Nat × Obj)} (hs : ∀ p ∈ L, p ∈ L') {a : Addr} {v : Value} (hr : Rd L a v) : Rd L' a v := by
  obtain ⟨cs, T, fr, hm, h1, hc⟩ := hr
  exact ⟨cs, T, fr, hs _ hm, h1, hc⟩

theorem Rd.tail {L : List (Nat × Obj)} {x : Nat × Obj} {a : Addr} {v : Value} (hr : Rd L a v) : Rd (x :: L) a v := hr.sub fun _ h => .tail _ h

section
variable {α : Type} {x0 x1 x2 x3 x4 x5 x6 x7 x8 x9 : α} {l : List α}
theorem m0 : x0 ∈ x0 :: l := .head _
theorem m1 : x1 ∈ x0 :: x1 :: l := .tail _ m0
theorem m2 : x2 ∈ x0 :: x1 :: x2 :: l := .tail _ m1
theorem m3 : x3 ∈ x0 :: x1 :: x2 :: x3 :: l := .tail _ m2
theorem m4 : x4 ∈ x0 :: x1 :: x2 :: x3 :: x4 :: l := .tail _ m3
theorem m5 : x5 ∈ x0 :: x1 :: x2 :: x3 :: x4 :: x5 :: l := .tail _ m4
theorem m6 : x6 ∈ x0 :: x1 :: x2 :: x3 :: x4 :: x5 :: x6 :: l := .tail _ m5
theorem m7 : x7 ∈ x0 :: x1 :: x2 :: x3 :: x4 :: x5 :: x6 :: x7 :: l := .tail _ m6
theorem m8 : x8 ∈ x0 :: x1 :: x2 :: x3 :: x4 :: x5 :: x6 :: x7 :: x8 :: l := .tail _ m7
theorem m9 : x9 ∈ x0 :: x1 :: x2 :: x3 :: x4 :: x5 :: x6 :: x7 :: x8 :: x9 :: l := .tail _ m8
end

section
variable {b : Nat} {o o' : Obj} {l : List (Nat × Obj)} {x0 x1 x2 x3 x4 x5 x6 x7 : Nat × Obj}
theorem u0 : Upd b o o' ((b, o) :: l) ((b, o') :: l) := .head
theorem u1 : Upd b o o' (x0 :: (b, o) :: l) (x0 :: (b, o') :: l) := .tail .head
theorem u2 : Upd b o o' (x0 :: x1 :: (b, o) :: l) (x0 :: x1 :: (b, o') :: l) := .tail u1
theorem u3 : Upd b o o' (x0 :: x1 :: x2 :: (b, o) :: l) (x0 :: x1 :: x2 :: (b, o') :: l) := .tail u2
theorem u4 : Upd b o o' (x0 :: x1 :: x2 :: x3 :: (b, o) :: l) (x0 :: x1 :: x2 :: x3 :: (b, o') :: l) := .tail u3
theorem u5 : Upd b o o' (x0 :: x1 :: x2 :: x3 :: x4 :: (b, o) :: l) (x0 :: x1 :: x2 :: x3 :: x4 :: (b, o') :: l) := .tail u4
theorem u6 : Upd b o o' (x0 :: x1 :: x2 :: x3 :: x4 :: x5 :: (b, o) :: l) (x0 :: x1 :: x2 :: x3 :: x4 :: x5 :: (b, o') :: l) := .tail u5
end

section
variable {w : World} {x0 x1 x2 x3 x4 x5 : Nat × Obj} {l : List (Nat × Obj)}
/-- The block number i comes to the head. -/
theorem SL.f1 [Strm] (h : SL w (x0 :: x1 :: l)) : SL w (x1 :: x0 :: l) := h.perm (.swap _ _ _)
theorem SL.f2 [Strm] (h : SL w (x0 :: x1 :: x2 :: l)) : SL w (x2 :: x0 :: x1 :: l) := h.perm ((List.Perm.swap x0 x2 _).trans ((List.Perm.swap _ _ _).cons x0))
theorem SL.f3 [Strm] (h : SL w (x0 :: x1 :: x2 :: x3 :: l)) : SL w (x3 :: x0 :: x1 :: x2 :: l) :=
  h.perm (List.perm_middle (a := x3) (l₁ := [x0, x1, x2]) (l₂ := l)).symm
theorem SL.f4 [Strm] (h : SL w (x0 :: x1 :: x2 :: x3 :: x4 :: l)) : SL w (x4 :: x0 :: x1 :: x2 :: x3 :: l) :=
  h.perm (List.perm_middle (a := x4) (l₁ := [x0, x1, x2, x3]) (l₂ := l)).symm
theorem SL.f5 [Strm] (h : SL w (x0 :: x1 :: x2 :: x3 :: x4 :: x5 :: l)) : SL w (x5 :: x0 :: x1 :: x2 :: x3 :: x4 :: l) :=
  h.perm (List.perm_middle (a := x5) (l₁ := [x0, x1, x2, x3, x4]) (l₂ := l)).symm
/-- The block is not known any more. -/
theorem SL.drop [Strm] (h : SL w (x0 :: l)) : SL w l := ⟨fun p hp => h.1 p (.tail _ hp), (List.nodup_cons.1 h.2.1).2, h.2.2⟩
theorem SL.drop1 [Strm] (h : SL w (x0 :: x1 :: l)) : SL w (x0 :: l) := h.f1.drop
theorem SL.drop2 [Strm] (h : SL w (x0 :: x1 :: x2 :: l)) : SL w (x0 :: x1 :: l) := h.f2.drop
end

/-! ## Values -/
section
variable {P : Program} {w : World} {e : Env} {ty : TypeId} {x y z : Operand} {v u : Value}

theorem Ev.move (hx : e.val x = some v) : Ev P w e (.move x) ty v := .of fun ρ hρ _ _ _ _ => by simp [execOp, hρ _ _ hx]
theorem Ev.assign (hx : e.val x = some v) : Ev P w e (.assign x) ty v := .of fun ρ hρ _ _ _ _ => by simp [execOp, hρ _ _ hx]
theorem Ev.pickT (hc : e.val z = some (.bool true)) (hx : e.val x = some v) : Ev P w e (.pick z x y) ty v := .of fun ρ hρ _ _ _ _ => by
  simp [execOp, hρ _ _ hc, hρ _ _ hx, asBool]
theorem Ev.pickF (hc : e.val z = some (.bool false)) (hy : e.val y = some v) : Ev P w e (.pick z x y) ty v := .of fun ρ hρ _ _ _ _ => by
  simp [execOp, hρ _ _ hc, hρ _ _ hy, asBool]
theorem Ev.nilCheck {a : Addr} (hx : e.val x = some (.pointer (some a))) : Ev P w e (.nilCheck x) ty (.pointer (some a)) := .of fun ρ hρ _ _ _ _ => by
  simp [execOp, hρ _ _ hx]

section ints
variable {k k' : IntKind} {a b c : Int} {t t' : TypeId}
theorem Ev.add (hx : e.val x = some (.int k a)) (hy : e.val y = some (.int k b)) (hr : k.wrap (a + b) = c := by first | exact qi64 (by omega) (by omega) | exact q32_add _ _ | exact qu64 (by omega) (by omega) | exact qu8 (by omega) (by omega) | rfl) : Ev P w e (.binOp .add t x y t') ty (.int k c) := .of fun ρ hρ _ _ _ _ => by
  simp [execOp, hρ _ _ hx, hρ _ _ hy, eqGuard, binOp, Op.intArith, hr]
theorem Ev.sub (hx : e.val x = some (.int k a)) (hy : e.val y = some (.int k b)) (hr : k.wrap (a - b) = c := by first | exact qi64 (by omega) (by omega) | exact qu64 (by omega) (by omega) | exact qu8 (by omega) (by omega) | rfl) : Ev P w e (.binOp .sub t x y t') ty (.int k c) := .of fun ρ hρ _ _ _ _ => by
  simp [execOp, hρ _ _ hx, hρ _ _ hy, eqGuard, binOp, Op.intArith, hr]
theorem Ev.mul (hx : e.val x = some (.int k a)) (hy : e.val y = some (.int k b)) (hr : k.wrap (a * b) = c := by first | exact qi64 (by omega) (by omega) | exact qu64 (by omega) (by omega) | exact qu8 (by omega) (by omega) | rfl) : Ev P w e (.binOp .mul t x y t') ty (.int k c) := .of fun ρ hρ _ _ _ _ => by
  simp [execOp, hρ _ _ hx, hρ _ _ hy, eqGuard, binOp, Op.intArith, hr]
theorem Ev.quo (hx : e.val x = some (.int k a)) (hy : e.val y = some (.int k b)) (hb : b ≠ 0) (hr : k.wrap (a.tdiv b) = c := by first | exact qi64 (by omega) (by omega) | rfl) : Ev P w e (.binOp .quo t x y t') ty (.int k c) := .of fun ρ hρ _ _ _ _ => by
  simp [execOp, hρ _ _ hx, hρ _ _ hy, eqGuard, binOp, Op.intDiv, hr, hb]
theorem Ev.rem (hx : e.val x = some (.int k a)) (hy : e.val y = some (.int k b)) (hb : b ≠ 0) (hr : a.tmod b = c := by rfl) : Ev P w e (.binOp .rem t x y t') ty (.int k c) := .of fun ρ hρ _ _ _ _ => by
  simp [execOp, hρ _ _ hx, hρ _ _ hy, eqGuard, binOp, Op.intDiv, hr, hb]
theorem Ev.and (hx : e.val x = some (.int k a)) (hy : e.val y = some (.int k b)) (hr : k.wrap (BitVec.ofInt k.bits a &&& BitVec.ofInt k.bits b).toNat = c := by exact q32_and _ _) : Ev P w e (.binOp .and t x y t') ty (.int k c) :=
  .of fun ρ hρ _ _ _ _ => by subst hr; simp [execOp, hρ _ _ hx, hρ _ _ hy, eqGuard, binOp, Op.intBits]
theorem Ev.or (hx : e.val x = some (.int k a)) (hy : e.val y = some (.int k b)) (hr : k.wrap (BitVec.ofInt k.bits a ||| BitVec.ofInt k.bits b).toNat = c := by exact q32_or _ _) : Ev P w e (.binOp .or t x y t') ty (.int k c) :=
  .of fun ρ hρ _ _ _ _ => by subst hr; simp [execOp, hρ _ _ hx, hρ _ _ hy, eqGuard, binOp, Op.intBits]
theorem Ev.xor (hx : e.val x = some (.int k a)) (hy : e.val y = some (.int k b)) (hr : k.wrap (BitVec.ofInt k.bits a ^^^ BitVec.ofInt k.bits b).toNat = c := by exact q32_xor _ _) : Ev P w e (.binOp .xor t x y t') ty (.int k c) :=
  .of fun ρ hρ _ _ _ _ => by subst hr; simp [execOp, hρ _ _ hx, hρ _ _ hy, eqGuard, binOp, Op.intBits]
theorem Ev.shl (hx : e.val x = some (.int k a)) (hy : e.val y = some (.int k' b)) (hb : 0 ≤ b) (hr : k.wrap (a * 2 ^ (min b.toNat k.bits)) = c := by exact q32_shl _ _) : Ev P w e (.binOp .shl t x y t') ty (.int k c) := .of fun ρ hρ _ _ _ _ => by
  subst hr
  have : ¬ b < 0 := by omega
  simp [execOp, hρ _ _ hx, hρ _ _ hy, eqGuard, binOp, Op.shift, this]
theorem Ev.shr (hx : e.val x = some (.int k a)) (hy : e.val y = some (.int k' b)) (hb : 0 ≤ b) (hr : a.fdiv (2 ^ (min b.toNat k.bits)) = c := by exact q32_shr _ _) : Ev P w e (.binOp .shr t x y t') ty (.int k c) := .of fun ρ hρ _ _ _ _ => by
  subst hr
  have : ¬ b < 0 := by omega
  simp [execOp, hρ _ _ hx, hρ _ _ hy, eqGuard, binOp, Op.shift, this]
theorem Ev.lss {r : Bool} (hx : e.val x = some (.int k a)) (hy : e.val y = some (.int k b)) (hr : decide (a < b) = r := by first | exact decide_eq_true (by omega) | exact decide_eq_false (by omega) | rfl) : Ev P w e (.binOp .lss t x y t') ty (.bool r) := .of fun ρ hρ _ _ _ _ => by
  subst hr; simp [execOp, hρ _ _ hx, hρ _ _ hy, eqGuard, binOp, Op.intCmp]
theorem Ev.leq {r : Bool} (hx : e.val x = some (.int k a)) (hy : e.val y = some (.int k b)) (hr : decide (a ≤ b) = r := by first | exact decide_eq_true (by omega) | exact decide_eq_false (by omega) | rfl) : Ev P w e (.binOp .leq t x y t') ty (.bool r) := .of fun ρ hρ _ _ _ _ => by
  subst hr; simp [execOp, hρ _ _ hx, hρ _ _ hy, eqGuard, binOp, Op.intCmp]
theorem Ev.gtr {r : Bool} (hx : e.val x = some (.int k a)) (hy : e.val y = some (.int k b)) (hr : decide (a > b) = r := by first | exact decide_eq_true (by omega) | exact decide_eq_false (by omega) | rfl) : Ev P w e (.binOp .gtr t x y t') ty (.bool r) := .of fun ρ hρ _ _ _ _ => by
  subst hr; simp [execOp, hρ _ _ hx, hρ _ _ hy, eqGuard, binOp, Op.intCmp]
theorem Ev.geq {r : Bool} (hx : e.val x = some (.int k a)) (hy : e.val y = some (.int k b)) (hr : decide (a ≥ b) = r := by first | exact decide_eq_true (by omega) | exact decide_eq_false (by omega) | rfl) : Ev P w e (.binOp .geq t x y t') ty (.bool r) := .of fun ρ hρ _ _ _ _ => by
  subst hr; simp [execOp, hρ _ _ hx, hρ _ _ hy, eqGuard, binOp, Op.intCmp]
theorem Ev.eql {r : Bool} (hx : e.val x = some (.int k a)) (hy : e.val y = some (.int k b)) (hr : (a == b) = r := by first | exact beq_iff_eq.2 (by omega) | exact beq_eq_false_iff_ne.2 (by omega) | rfl) : Ev P w e (.binOp .eql t x y t') ty (.bool r) := .of fun ρ hρ _ _ _ _ => by
  subst hr; simp [execOp, hρ _ _ hx, hρ _ _ hy, eqGuard, binOp, Op.intCmp]
theorem Ev.neq {r : Bool} (hx : e.val x = some (.int k a)) (hy : e.val y = some (.int k b)) (hr : (a != b) = r := by first | exact bne_iff_ne.2 (by omega) | exact bne_eq_false_iff_eq.2 (by omega) | rfl) : Ev P w e (.binOp .neq t x y t') ty (.bool r) := .of fun ρ hρ _ _ _ _ => by
  subst hr; simp [execOp, hρ _ _ hx, hρ _ _ hy, eqGuard, binOp, Op.intCmp]
theorem Ev.not {r : Bool} (hx : e.val x = some (.bool r)) : Ev P w e (.unOp .not t x) ty (.bool !r) := .of fun ρ hρ _ _ _ _ => by
  simp [execOp, hρ _ _ hx, Op.unary]
theorem Ev.neg (hx : e.val x = some (.int k a)) (hr : k.wrap (0 - a) = c := by first | exact qi64 (by omega) (by omega) | rfl) : Ev P w e (.unOp .neg t x) ty (.int k c) := .of fun ρ hρ _ _ _ _ => by
  subst hr; simp [execOp, hρ _ _ hx, Op.unary, Op.intArith]
theorem Ev.compl (hx : e.val x = some (.int k a)) (hr : k.wrap (BitVec.ofInt k.bits (if k.signed then -1 else k.max) ^^^ BitVec.ofInt k.bits a).toNat = c := by exact q32_not _) : Ev P w e (.unOp .xor t x) ty (.int k c) := .of fun ρ hρ _ _ _ _ => by
  subst hr; simp [execOp, hρ _ _ hx, Op.unary, Op.intBits]
/-- The kind of a type of integers. -/
def intT (P : Program) (t : TypeId) : Option IntKind := match P.underlying t with
  | some (.int k) => some k
  | _ => none

theorem intT_spec {t : TypeId} {k : IntKind} (h : intT P t = some k) : P.underlying t = some (.int k) := by
  unfold intT at h
  split at h
  · rename_i h'; cases h; exact h'
  · cases h

/-- From one kind of numbers to another. -/
theorem Ev.conv (hx : e.val x = some (.int k a)) (hs : intT P t = some k) (hd : intT P t' = some k')
    (hr : k'.wrap a = c := by first | exact qi64 (by omega) (by omega) | exact qu64 (by omega) (by omega) | exact qu32 (by omega) (by omega) | exact qu8 (by omega) (by omega) | exact q32_wrap _ | rfl) :
    Ev P w e (.convert t t' x) ty (.int k' c) := .of fun ρ hρ _ _ _ _ => by
  subst hr
  have h1 := run_underlying (w := w) (intT_spec hs)
  have h2 := run_underlying (w := w) (intT_spec hd)
  simp [execOp, hρ _ _ hx, convert, h1, h2, Conv.intToInt]
end ints

theorem run_equal_of {r : Bool} {t : TypeId} {v u : Value} (h : ∀ d, (Op.equalIn (d + 1) t v u).run P w = .ok r w) : (Op.equal t v u).run P w = .ok r w := h 9999

theorem run_equalIn_ptrNil {t el : TypeId} {a : Option Addr} (hu : P.underlying t = some (.pointer el)) (d : Nat) : (Op.equalIn (d + 1) t (.pointer a) (.pointer none)).run P w = .ok a.isNone w := by
  have h1 := run_underlying (w := w) hu
  cases a <;> simp [Op.equalIn, h1]

theorem Ev.ptrNilEq {t t' : TypeId} {el : TypeId} {a : Option Addr} (hx : e.val x = some (.pointer a)) (hy : e.val y = some (.pointer none)) (hu : P.underlying t = some (.pointer el)) :
    Ev P w e (.binOp .eql t x y t') ty (.bool a.isNone) := .of fun ρ hρ _ _ _ _ => by
  have h := run_equal_of (w := w) fun d => run_equalIn_ptrNil (a := a) hu d
  simp [execOp, hρ _ _ hx, hρ _ _ hy, eqGuard, binOp, h]

theorem Ev.ptrNilNe {t t' : TypeId} {el : TypeId} {a : Option Addr} (hx : e.val x = some (.pointer a)) (hy : e.val y = some (.pointer none)) (hu : P.underlying t = some (.pointer el)) :
    Ev P w e (.binOp .neq t x y t') ty (.bool (!a.isNone)) := .of fun ρ hρ _ _ _ _ => by
  have h := run_equal_of (w := w) fun d => run_equalIn_ptrNil (a := a) hu d
  simp [execOp, hρ _ _ hx, hρ _ _ hy, eqGuard, binOp, h]
end

/-- A region whose order is open, told by what lies in memory. -/
theorem RunsE.drawS [Strm] {P : Program} {C : Ctx} {R : Ending → World → Prop} {n : Nat} {k : List Item} {e : Env} {w : World} {id : Nat} {l : List Oper} {L : List (Nat × Obj)}
    (H : SL w L) (T : List Nat) (hm : P.follows .mixedOrders = true)
    (h : ∀ w', SL w' L → OpsD P C R k l.toArray (fun w => SL w L) T n l.length (Array.replicate l.length false) e w') (hro : C.ro = none := by rfl) :
    RunsE P C R n (.code (.region id l.toArray true) :: k) e w :=
  RunsE.draw _ T hm hro fun w' hw hk => h w' (H.heap hw hk)
end Go.Proofs.YtniihnncgblocaaDoor.V
