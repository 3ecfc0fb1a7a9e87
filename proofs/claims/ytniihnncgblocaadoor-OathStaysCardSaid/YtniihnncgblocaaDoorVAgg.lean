/-
  The engine: arrays of bytes that are values: equal or not; a slice as an array.
-/
import Derived.ChangeKeysEq
import Derived.Test.YtniihnncgblocaaDoorVSl
namespace Go.Proofs.YtniihnncgblocaaDoor.V

section
variable {P : Program} {w : World} {e : Env} {ty t t2 : TypeId} {x y z : Operand} {v u : Value} {L L' B : List (Nat × Obj)}

theorem run_eqItems_bytes {d : Nat} {el : TypeId} {k : IntKind} (hu : P.underlying el = some (.int k)) (hc : P.cellsOf el = 1) (xs ys : List Int) : ∀ (is : List Nat), (∀ i ∈ is, i < xs.length ∧ i < ys.length) →
    (Op.eqItems (d + 1) el (P.cellsOf el) (xs.map (.int k)).toArray (ys.map (.int k)).toArray is).run P w = .ok (is.all fun i => xs[i]? == ys[i]?) w
  | [], _ => by simp [Op.eqItems]
  | i :: is, h => by
    obtain ⟨h1, h2⟩ := h i (.head _)
    have hp : P.plainKey el = true := by simp [Program.plainKey, hu]
    have e1 := run_part_plain w hp (xs := (xs.map (Value.int k)).toArray) (off := i) (v := .int k xs[i]) (by simp [h1])
    have e2 := run_part_plain w hp (xs := (ys.map (Value.int k)).toArray) (off := i) (v := .int k ys[i]) (by simp [h2])
    have e3 : (Op.equalIn (d + 1) el (.int k xs[i]) (.int k ys[i])).run P w = .ok (xs[i] == ys[i]) w := by
      simp [Op.equalIn, run_underlying hu]
    have ih := run_eqItems_bytes (d := d) hu hc xs ys is fun j hj => h j (.tail _ hj)
    have e4 : (xs[i]? == ys[i]?) = (xs[i] == ys[i]) := by simp [h1, h2]
    simp only [Op.eqItems, Sem.run_bind, hc, Nat.mul_one, e1, e2, e3, Result.andThen, List.all_cons, e4] at ih ⊢
    cases hq : (xs[i] == ys[i])
    · simp
    · simpa using ih

theorem run_equal_bytes {el n : Nat} {k : IntKind} {inf : TypeInfo} (ht : P.underlying t = some (.array n el)) (hu : P.underlying el = some (.int k)) (hi : P.info? el = some inf) (hs : inf.size = 1)
    {xs ys : List Int} (hx : xs.length = n) (hy : ys.length = n) : (Op.equal t (.agg (xs.map (.int k)).toArray) (.agg (ys.map (.int k)).toArray)).run P w = .ok (xs == ys) w := by
  have hc : P.cellsOf el = 1 := by simp [Program.cellsOf, hi, hs]
  have h1 := run_equalIn_array (P := P) w 9999 (t := t) (e := el) (n := n) (i := inf) (xs.map (.int k)).toArray (ys.map (.int k)).toArray ht hi
  have h2 := run_eqItems_bytes (P := P) (w := w) (d := 9998) hu hc xs ys (List.range n) fun i h => by have := List.mem_range.1 h; omega
  show (Op.equalIn 10000 t _ _).run P w = _
  rw [h1, h2]
  congr 1
  rw [Bool.eq_iff_iff, beq_iff_eq, List.all_eq_true]
  constructor
  · intro h
    apply List.ext_getElem?
    intro i
    by_cases hin : i < n
    · simpa using h i (List.mem_range.2 hin)
    · rw [List.getElem?_eq_none (by omega), List.getElem?_eq_none (by omega)]
  · rintro rfl i _
    simp

theorem bv_map (xs : List UInt8) : (xs.map fun b => (b.toNat : Int)).map (Value.int .u8) = xs.map BV := by simp [List.map_map, Function.comp_def]

theorem bv_eq (xs ys : List UInt8) : ((xs.map fun b => (b.toNat : Int)) == (ys.map fun b => (b.toNat : Int))) = (xs == ys) := by
  rw [Bool.eq_iff_iff, beq_iff_eq, beq_iff_eq]
  constructor
  · intro h
    refine (List.map_inj_right ?_).1 h
    intro a b h
    have : a.toNat = b.toNat := by omega
    exact UInt8.toNat_inj.1 this
  · rintro rfl; rfl

/-- What an array of bytes is. -/
structure BytesT (P : Program) (t : TypeId) (n : Nat) : Prop where
  ok : ∃ el inf, P.underlying t = some (.array n el) ∧ P.underlying el = some (.int .u8) ∧ P.info? el = some inf ∧ inf.size = 1 ∧ P.eqGuardType P.depth t = false

def bytesArr (P : Program) (t : TypeId) : Option Nat := match P.underlying t with
  | some (.array n el) => match P.underlying el, P.info? el with
    | some (.int .u8), some inf => bif Nat.beq inf.size 1 && !(P.eqGuardType P.depth t) then some n else none
    | _, _ => none
  | _ => none

theorem bytesArr_spec {n : Nat} (h : bytesArr P t = some n) : BytesT P t n := by
  unfold bytesArr at h
  split at h
  · rename_i n' el h1
    split at h
    · rename_i inf h2 h3
      cases hs : Nat.beq inf.size 1 with
      | false => rw [hs] at h; simp at h
      | true =>
        rw [hs] at h
        cases hg : P.eqGuardType P.depth t with
        | true => rw [hg] at h; simp at h
        | false =>
          rw [hg] at h
          simp at h
          subst h
          exact ⟨el, inf, h1, h2, h3, Nat.eq_of_beq_eq_true hs, hg⟩
    · cases h
  · cases h

theorem Ev.bytesEq {n : Nat} {xs ys : List UInt8} {t' : TypeId} (hx : e.val x = some (.agg (xs.map BV).toArray)) (hy : e.val y = some (.agg (ys.map BV).toArray)) (ht : bytesArr P t = some n) (h1 : xs.length = n) (h2 : ys.length = n) :
    Ev P w e (.binOp .eql t x y t') ty (.bool (xs == ys)) := .of fun ρ hρ _ _ _ _ => by
  obtain ⟨el, inf, a1, a2, a3, a4, a5⟩ := bytesArr_spec ht
  have h := run_equal_bytes (P := P) (w := w) a1 a2 a3 a4 (xs := xs.map fun b => (b.toNat : Int)) (ys := ys.map fun b => (b.toNat : Int)) (by simp [h1]) (by simp [h2])
  rw [bv_map, bv_map, bv_eq] at h
  simp [execOp, hρ _ _ hx, hρ _ _ hy, eqGuard, a5, binOp, h]

theorem Ev.bytesNe {n : Nat} {xs ys : List UInt8} {t' : TypeId} (hx : e.val x = some (.agg (xs.map BV).toArray)) (hy : e.val y = some (.agg (ys.map BV).toArray)) (ht : bytesArr P t = some n) (h1 : xs.length = n) (h2 : ys.length = n) :
    Ev P w e (.binOp .neq t x y t') ty (.bool (!(xs == ys))) := .of fun ρ hρ _ _ _ _ => by
  obtain ⟨el, inf, a1, a2, a3, a4, a5⟩ := bytesArr_spec ht
  have h := run_equal_bytes (P := P) (w := w) a1 a2 a3 a4 (xs := xs.map fun b => (b.toNat : Int)) (ys := ys.map fun b => (b.toNat : Int)) (by simp [h1]) (by simp [h2])
  rw [bv_map, bv_map, bv_eq] at h
  simp [execOp, hρ _ _ hx, hρ _ _ hy, eqGuard, a5, binOp, h]

theorem Ev.minN {k k' : IntKind} {a b c : Int} {ats : Array TypeId} (hx : e.val x = some (.int k a)) (hy : e.val y = some (.int k' b)) (hc : c = if b < a then b else a) :
    Ev P w e (.call ⟨.builtin .min, #[x, y], ats⟩) ty (.int k c) := by
  rw [hc]; exact Ev.min hx hy

/-- A slice as an array: where it lies. -/
theorem Ev.slArrPtr {n len c : Nat} {el : TypeId} {a : Option Addr} (hx : e.val x = some (.slice a len c)) (ht : P.underlying t = some (.array n el)) (hn : n ≤ len) : Ev P w e (.sliceToArrayPointer t x) ty (.pointer a) := .of fun ρ hρ _ _ _ _ => by
  have : ¬ len < n := by omega
  simp [execOp, hρ _ _ hx, Instr.arrayAt, run_underlying ht, this]

end
end Go.Proofs.YtniihnncgblocaaDoor.V
