/-
  The engine: structs that are values, of a number, a number and a string: the same on both sides.
-/
import Derived.Test.YtgeocehgobcdjaaDoorVInv
namespace Go.Proofs.YtgeocehgobcdjaaDoor.V

/-- A struct's three fields: two numbers of 64 bits and a string, one cell each. -/
def isIIS (P : Program) (t : TypeId) : Bool := match P.underlying t with
  | some (.struct fs) => match fs.toList with
    | [f0, f1, f2] => f0.name != "_" && f1.name != "_" && f2.name != "_" && f0.offset == 0 && f1.offset == 1 && f2.offset == 2 &&
      (intT P f0.type == some .i64) && (intT P f1.type == some .i64) && (match P.underlying f2.type with | some .string => true | _ => false) && !P.stoodInHeld t && !(P.eqGuardType P.depth t)
    | _ => false
  | _ => false

section
variable {P : Program} {w : World} {e : Env} {ty t : TypeId} {x y : Operand}

theorem plain_int {t : TypeId} {k : IntKind} (h : P.underlying t = some (.int k)) : plainT P t = true := by simp [plainT, h]
theorem plain_str {t : TypeId} (h : P.underlying t = some .string) : plainT P t = true := by simp [plainT, h]

theorem run_eqInt {t : TypeId} {a : Int} (h : P.underlying t = some (.int .i64)) (d : Nat) : (Op.equalIn (d + 1) t (.int .i64 a) (.int .i64 a)).run P w = .ok true w := by
  simp [Op.equalIn, run_underlying h]
theorem run_eqStr {t : TypeId} {s : ByteArray} (h : P.underlying t = some .string) (d : Nat) : (Op.equalIn (d + 1) t (.string s) (.string s)).run P w = .ok true w := by
  simp only [Op.equalIn, Sem.run_bind, run_underlying h, Result.andThen, Sem.run_pure]
  congr 1
  cases s with
  | mk d => exact beq_self_eq_true d

theorem run_partOf {t : TypeId} {cs : Array Value} {i : Nat} {v : Value} (hp : plainT P t = true) (hv : cs[i]? = some v) : (part t cs i).run P w = .ok v w := by
  have h := run_isAgg_plain hp w
  simp [part, h, hv]

theorem iis_spec (h : isIIS P t = true) : ∃ f0 f1 f2, P.underlying t = some (.struct #[f0, f1, f2]) ∧ f0.name ≠ "_" ∧ f1.name ≠ "_" ∧ f2.name ≠ "_" ∧ f0.offset = 0 ∧ f1.offset = 1 ∧ f2.offset = 2 ∧ P.underlying f0.type = some (.int .i64) ∧
    P.underlying f1.type = some (.int .i64) ∧ P.underlying f2.type = some .string ∧ P.stoodInHeld t = false ∧ P.eqGuardType P.depth t = false := by
  unfold isIIS at h
  split at h
  · rename_i fs hu
    split at h
    · rename_i f0 f1 f2 hl
      simp only [Bool.and_eq_true, bne_iff_ne, beq_iff_eq, Bool.not_eq_true'] at h
      obtain ⟨⟨⟨⟨⟨⟨⟨⟨⟨⟨a, b⟩, c⟩, d⟩, e1⟩, f⟩, g⟩, i⟩, j⟩, k⟩, l⟩ := h
      have hfs : fs = #[f0, f1, f2] := by apply Array.ext'; simpa using hl
      refine ⟨f0, f1, f2, by rw [hu, hfs], a, b, c, d, e1, f, intT_spec g, intT_spec i, ?_, k, l⟩
      split at j
      · rename_i hs; exact hs
      · cases j
    · cases h
  · cases h

theorem run_equal_iis {a b : Int} {s : ByteArray} (h : isIIS P t = true) : (Op.equal t (.agg #[.int .i64 a, .int .i64 b, .string s]) (.agg #[.int .i64 a, .int .i64 b, .string s])).run P w = .ok true w := by
  obtain ⟨f0, f1, f2, hu, n0, n1, n2, o0, o1, o2, t0, t1, t2, hs, _⟩ := iis_spec h
  have p0 := run_partOf (P := P) (w := w) (cs := #[.int .i64 a, .int .i64 b, .string s]) (i := 0) (plain_int t0) rfl
  have p1 := run_partOf (P := P) (w := w) (cs := #[.int .i64 a, .int .i64 b, .string s]) (i := 1) (plain_int t1) rfl
  have p2 := run_partOf (P := P) (w := w) (cs := #[.int .i64 a, .int .i64 b, .string s]) (i := 2) (plain_str t2) rfl
  obtain ⟨D, hD⟩ : ∃ D, D = 9999 := ⟨_, rfl⟩
  have e0 : (Op.equalIn D f0.type (.int .i64 a) (.int .i64 a)).run P w = .ok true w := by rw [hD]; exact run_eqInt (w := w) (a := a) t0 9998
  have e1 : (Op.equalIn D f1.type (.int .i64 b) (.int .i64 b)).run P w = .ok true w := by rw [hD]; exact run_eqInt (w := w) (a := b) t1 9998
  have e2 : (Op.equalIn D f2.type (.string s) (.string s)).run P w = .ok true w := by rw [hD]; exact run_eqStr (w := w) (s := s) t2 9998
  have hM : Op.maxDepth = D + 1 := by rw [hD]; rfl
  rw [Op.equal, hM]
  clear hM hD
  simp only [Op.equalIn, Sem.run_bind, run_underlying hu, Result.andThen, run_program, hs]
  simp [n0, n1, n2, o0, o1, o2, p0, p1, p2, e0, e1, e2]

theorem Ev.iisEq {t' : TypeId} {a b : Int} {s : ByteArray} (hx : e.val x = some (.agg #[.int .i64 a, .int .i64 b, .string s])) (hy : e.val y = some (.agg #[.int .i64 a, .int .i64 b, .string s])) (h : isIIS P t = true) :
    Ev P w e (.binOp .eql t x y t') ty (.bool true) := .of fun ρ hρ _ _ _ _ => by
  obtain ⟨_, _, _, _, _, _, _, _, _, _, _, _, _, _, hg⟩ := iis_spec h
  have := run_equal_iis (w := w) (a := a) (b := b) (s := s) h
  simp [execOp, hρ _ _ hx, hρ _ _ hy, eqGuard, hg, binOp, this]

theorem Ev.iisNe {t' : TypeId} {a b : Int} {s : ByteArray} (hx : e.val x = some (.agg #[.int .i64 a, .int .i64 b, .string s])) (hy : e.val y = some (.agg #[.int .i64 a, .int .i64 b, .string s])) (h : isIIS P t = true) :
    Ev P w e (.binOp .neq t x y t') ty (.bool false) := .of fun ρ hρ _ _ _ _ => by
  obtain ⟨_, _, _, _, _, _, _, _, _, _, _, _, _, _, hg⟩ := iis_spec h
  have := run_equal_iis (w := w) (a := a) (b := b) (s := s) h
  simp [execOp, hρ _ _ hx, hρ _ _ hy, eqGuard, hg, binOp, this]
end
end Go.Proofs.YtgeocehgobcdjaaDoor.V
