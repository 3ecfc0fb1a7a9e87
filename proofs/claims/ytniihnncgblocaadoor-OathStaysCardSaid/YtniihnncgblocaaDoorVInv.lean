/-
  The engine: calls through an interface, type assertions; elements of several cells of a slice of one's own.
-/
import Derived.Test.YtniihnncgblocaaDoorVFun
namespace Go.Proofs.YtniihnncgblocaaDoor.V

/-- A region whose order is open, told by a part of what lies in memory. -/
theorem RunsE.drawSub [Strm] {P : Program} {C : Ctx} {R : Ending → World → Prop} {n : Nat} {k : List Item} {e : Env} {w : World} {id : Nat} {l : List Oper} {L L' : List (Nat × Obj)}
    (H : SL w L) (_ : ∀ w, SL w L → SL w L') (T : List Nat) (hm : P.follows .mixedOrders = true)
    (h : ∀ w', SL w' L → OpsD P C R k l.toArray (fun w => SL w L') T n l.length (Array.replicate l.length false) e w') (hro : C.ro = none := by rfl) :
    RunsE P C R n (.code (.region id l.toArray true) :: k) e w :=
  RunsE.draw _ T hm hro fun w' hw hk => h w' (H.heap hw hk)

/-- The method of a type by its name: its function, and whether it takes the pointer. -/
def methT (P : Program) (t : TypeId) (name : String) : Option (FuncId × Bool) := (P.info? t).bind fun inf => (inf.methods.find? (·.name == name)).bind fun m => if m.path.toList.isEmpty then m.func else none

theorem methT_spec {P : Program} {t : TypeId} {name : String} {r : FuncId × Bool} (h : methT P t name = some r) : ∃ inf m, P.info? t = some inf ∧ inf.methods.find? (·.name == name) = some m ∧ m.path.toList = [] ∧ m.func = some r := by
  simp only [methT, Option.bind_eq_some_iff] at h
  obtain ⟨inf, h1, m, h2, h3⟩ := h
  split at h3
  · rename_i hp
    exact ⟨inf, m, h1, h2, by simpa using hp, h3⟩
  · cases h3

section
variable {P : Program} {w : World} {e : Env} {ty t t2 : TypeId} {x y : Operand} {v u : Value} {L L' B : List (Nat × Obj)}

theorem run_wrapNil {ats : Array TypeId} {a : Addr} {s s' : String} : (Builtin.ssaWrapNilChk_ ats ty #[.pointer (some a), strVal s, strVal s']).run P w = .ok (.pointer (some a)) w := rfl

theorem run_method_val {f : FuncId} {el : TypeId} {a : Addr} {name : String} {n : Nat} (hm : methT P t name = some (f, false)) (ht : P.underlying t = some (.pointer el)) (hp : plainT P el = true) (hc : w.cell? a = some v) :
    (method (n + 1) t (.pointer (some a)) name).run P w = .ok (f, v) w := by
  obtain ⟨inf, m, h1, h2, h3, h4⟩ := methT_spec hm
  have hl := run_loadVar_plain hp hc
  have e1 : m.path = #[] := by apply Array.ext'; simpa using h3
  simp [method, typeInfo, h1, h2, e1, follow, h4, receiverAt, run_underlying ht, Place.get, run_wrapNil, asAddr, hl]

theorem run_method_ptr {f : FuncId} {el : TypeId} {name : String} {n : Nat} (hm : methT P t name = some (f, true)) (ht : P.underlying t = some (.pointer el)) :
    (method (n + 1) t v name).run P w = .ok (f, v) w := by
  obtain ⟨inf, m, h1, h2, h3, h4⟩ := methT_spec hm
  have e1 : m.path = #[] := by apply Array.ext'; simpa using h3
  simp [method, typeInfo, h1, h2, e1, follow, h4, receiverAt, run_underlying ht, Place.get]

theorem run_callMethod {f : FuncId} {rv : Value} {name : String} {args : Array Value} (hm : ∀ n, (method (n + 1) t v name).run P w = .ok (f, rv) w) (hc : ∀ args w, (callFunc f args).run P w = .ok (.enter f args) w) :
    (callMethod (.iface t v) name args).run P w = .ok (.enter f (#[rv] ++ args)) w := by
  have : ∃ n, P.types.size + Made.depth = n + 1 := ⟨P.types.size + Made.depth - 1, by have : Made.depth = 100 := rfl; omega⟩
  obtain ⟨n, hn⟩ := this
  simp only [callMethod, Sem.run_bind, run_program, Result.andThen, hn, hm n, hc]

/-- A call through an interface. -/
theorem Ex.invoke {f : FuncId} {rv : Value} {name : String} {l : List Operand} {vs : List Value} {ats : Array TypeId} {K : Value → World → Prop} (hx : e.val x = some (.iface t v)) (hl : e.vals l = some vs)
    (hm : ∀ n, (method (n + 1) t v name).run P w = .ok (f, rv) w) (hc : ∀ args w, (callFunc f args).run P w = .ok (.enter f args) w) (hs : Does P f (rv :: vs).toArray w K) : Ex P w e (.call ⟨.invoke x name, l.toArray, ats⟩) ty K := .of fun ρ hρ _ _ _ _ => by
  have h1 := Env.vals_map hρ hl
  have h2 := run_callMethod (args := vs.toArray) hm hc
  have h3 : (execOp ρ ⟨‹_›, .call ⟨.invoke x name, l.toArray, ats⟩, ty, ‹_›, ‹_›, ‹_›⟩).run P w = .ok (.enter f (#[rv] ++ vs.toArray)) w := by
    simp only [execOp, resolve, Sem.run_bind, Sem.run_pure, Result.andThen, hρ _ _ hx, List.map_toArray, h1, Go.invoke]
    simp [h2]
  rw [h3]
  have e1 : (#[rv] ++ vs.toArray : Array Value) = (rv :: vs).toArray := by
    apply Array.ext'
    simp
  rw [e1]
  exact hs

/-- 'x.(T)' with ok, where it holds that type. -/
theorem Ev.assertOk {T : TypeId} {d : TypeDesc} (hx : e.val x = some (.iface T v)) (hu : P.underlying T = some d) (hd : (match d with | .interface _ => false | _ => true) = true) : Ev P w e (.typeAssert x t T true) ty (.tuple #[v, .bool true]) := .of fun ρ hρ _ _ _ _ => by
  have h1 := run_underlying (w := w) hu
  simp only [execOp, hρ _ _ hx, Instr.typeAssert, Sem.run_bind, h1, Result.andThen]
  cases d <;> first | (simp; done) | simp at hd

/-! ### Elements of several cells -/

theorem flat_set {α : Type} {g : α → List Value} {sz : Nat} (hg : ∀ x, (g x).length = sz) {xs : List α} {sp : List Value} {i : Nat} (hi : i < xs.length) (y : α) :
    putAt (xs.flatMap g ++ sp).toArray (i * sz) (g y) = ((xs.set i y).flatMap g ++ sp).toArray := by
  have e1 : xs = xs.take i ++ xs[i] :: xs.drop (i + 1) := by
    rw [← List.drop_eq_getElem_cons hi, List.take_append_drop]
  have e2 : xs.set i y = xs.take i ++ y :: xs.drop (i + 1) := List.set_eq_take_append_cons_drop.trans (by rw [if_pos hi])
  rw [e2]
  have e3 : xs.flatMap g ++ sp = (xs.take i).flatMap g ++ g xs[i] ++ ((xs.drop (i + 1)).flatMap g ++ sp) := by
    have := congrArg (fun l => List.flatMap g l ++ sp) e1
    simp only [List.flatMap_append, List.flatMap_cons] at this
    rw [this]
    simp only [List.append_assoc]
  have e4 : (xs.take i ++ y :: xs.drop (i + 1)).flatMap g ++ sp = (xs.take i).flatMap g ++ g y ++ ((xs.drop (i + 1)).flatMap g ++ sp) := by simp [List.flatMap_append]
  rw [e3, e4]
  refine putAt_append ?_ ?_
  · rw [flatMap_length hg, List.length_take, Nat.min_eq_left (by omega)]
  · rw [hg, hg]

/-- An element of a slice of one's own, read. -/
theorem Slc.rdEl {α : Type} {g : α → List Value} {sz : Nat} {T : TypeId} {xs : List α} {b n c : Nat} {a : α} {i : Nat} (h : Slc g sz T (.slice (some ⟨b, 0, none⟩) n c) xs B) (hg : ∀ x, (g x).length = sz) (hi : xs[i]? = some a) :
    ∀ (j : Nat) v, (g a)[j]? = some v → Rd (B ++ L) ⟨b, i * sz + j, none⟩ v := fun j v hj => by
  have hlt : i < xs.length := by
    rcases Nat.lt_or_ge i xs.length with h | h
    · exact h
    · rw [List.getElem?_eq_none h] at hi; cases hi
  obtain ⟨b', cap, sp, fr, e1, rfl, h1, h2, h3⟩ := h.shape (by omega)
  cases e1
  have hjs : j < sz := by
    rcases Nat.lt_or_ge j sz with h | h
    · exact h
    · rw [List.getElem?_eq_none (by rw [hg]; exact h)] at hj; cases hj
  refine Rd.mk (.head _) ?_
  rw [List.getElem?_toArray]
  have hl := flatMap_length hg xs
  have hle : (i + 1) * sz ≤ xs.length * sz := Nat.mul_le_mul_right _ hlt
  rw [Nat.add_mul] at hle
  rw [List.getElem?_append_left (by omega), flatMap_get hg xs i j a hi hjs]
  exact hj

/-- A slice of one's own: where it lies, what may stand behind. -/
theorem Slc.row {α : Type} {g : α → List Value} {sz : Nat} {T : TypeId} {xs : List α} (h : Slc g sz T v xs B) (h0 : 0 < xs.length) : ∃ b c, v = .slice (some ⟨b, 0, none⟩) xs.length c ∧ xs.length ≤ c := by
  obtain ⟨b', cap, sp, fr, e1, _, h1, h2, h3⟩ := h.shape h0
  exact ⟨b', cap, e1, h2⟩

/-- An element of a slice of one's own, written. -/
theorem Ex.storeEl [Strm] {α : Type} {g : α → List Value} {sz : Nat} {T : TypeId} {xs : List α} {b n c : Nat} {a : α} {i : Nat} {B0 : List (Nat × Obj)} (H : SL w (B0 ++ (B ++ L))) (hx : e.val x = some (.pointer (some ⟨b, i * sz, none⟩))) (hy : e.val y = some u) (hu : u.cells = (g a).toArray) (ht : sizeT P t = some sz)
    (hs : Slc g sz T (.slice (some ⟨b, 0, none⟩) n c) xs B) (hg : ∀ x, (g x).length = sz) (hone : ∀ x, ∀ v ∈ g x, v.oneCell' = true) (hi : i < xs.length) :
    Ex P w e (.store t x y) ty fun _ w' => ∃ B', Slc g sz T (.slice (some ⟨b, 0, none⟩) n c) (xs.set i a) B' ∧ SL w' (B0 ++ (B' ++ L)) := by
  obtain ⟨b', cap, sp, fr, e1, rfl, h1, h2, h3⟩ := hs.shape (by omega)
  cases e1
  have hl := flatMap_length hg xs
  have hle : (i + 1) * sz ≤ xs.length * sz := Nat.mul_le_mul_right _ hi
  rw [Nat.add_mul] at hle
  have hle2 : xs.length * sz ≤ c * sz := Nat.mul_le_mul_right _ h2
  refine (Ex.store (cs' := ((xs.set i a).flatMap g ++ sp).toArray) H hx hy ht (Upd.skip .head B0) (by rw [hu]; simp [hg]) (by rw [hu]; simpa using hone a) (by simp only [List.size_toArray, List.length_append]; omega) (h3.sub (by omega)) (by rw [hu]; exact flat_set hg hi a)).mono fun _ w' H' => ?_
  refine ⟨[(b, .cells ((xs.set i a).flatMap g ++ sp).toArray T fr)], ?_, H'⟩
  have := Slc.blk (g := g) (sz := sz) (T := T) b (xs.set i a) c sp fr (by rw [List.length_set]; exact h1) (by rw [List.length_set]; exact h2) h3
  rw [List.length_set] at this
  exact this

/-- A slice of one's own, cut to its first k. -/
theorem Slc.cutTo {α : Type} {g : α → List Value} {sz : Nat} {T : TypeId} {xs : List α} {a : Option Addr} {n c k : Nat} (h : Slc g sz T (.slice a n c) xs B) (hg : ∀ x, (g x).length = sz) (hk : k ≤ xs.length) :
    Slc g sz T (.slice (cutAddr a 0 c sz) (k - 0) (c - 0)) (xs.take k) B := by
  rw [cutAddr_zero, Nat.sub_zero, Nat.sub_zero]
  generalize hv : Value.slice a n c = v at h
  cases h with
  | nil =>
    cases hv
    obtain rfl : k = 0 := by simpa using hk
    exact .nil
  | blk b xs cap spare fr h1 h2 h3 =>
    cases hv
    have hl : (xs.take k).length = k := by rw [List.length_take]; omega
    have hle : k * sz ≤ xs.length * sz := Nat.mul_le_mul_right _ hk
    have e1 : xs.flatMap g = (xs.take k).flatMap g ++ (xs.drop k).flatMap g := by
      conv => lhs; rw [← List.take_append_drop k xs]
      rw [List.flatMap_append]
    have h4 := flatMap_length hg (xs.drop k)
    rw [List.length_drop, Nat.sub_mul] at h4
    have := Slc.blk (g := g) (sz := sz) (T := T) b (xs.take k) c ((xs.drop k).flatMap g ++ spare) fr (by rw [List.length_append, h4, hl]; omega) (by omega) h3
    rw [hl, ← List.append_assoc, ← e1] at this
    exact this

end
end Go.Proofs.YtniihnncgblocaaDoor.V
