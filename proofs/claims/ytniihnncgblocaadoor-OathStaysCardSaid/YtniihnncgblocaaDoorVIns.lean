/-
  The engine: append of a make; a call of a function that has no body; two slices that lie apart.
-/
import Derived.Test.YtniihnncgblocaaDoorVMap
namespace Go.Proofs.YtniihnncgblocaaDoor.V

section
variable {P : Program} {w : World} {e : Env} {ty t t2 : TypeId} {x y z : Operand} {v u : Value} {L L' B : List (Nat × Obj)}

/-- 'append(s, make([]int, m)...)', beyond the room there is. -/
theorem Ex.appendMake [Strm] {el n m cap : Nat} {a : Option Addr} {vs : List Value} (H : SL w L) (hx : e.val x = some (.slice a n cap)) (hy : e.val y = some (.int .i64 (m : Nat))) (hs : RdS L 1 (.slice a n cap) n vs)
    (h0 : 0 < m) (hroom : cap < n + m) (hbig : n + m ≤ 1000000) (ht : slT P t = some (el, 1)) (hu2 : P.underlying t2 = some (.int .i64)) (hby : bytesT P el = some 8) (hz : zeroT P el = some (.int .i64 0)) :
    Ex P w e (.call ⟨.builtin .append, #[x, y], #[t, t2]⟩) ty fun v' w' => ∃ b cap', v' = .slice (some ⟨b, 0, none⟩) (n + m) cap' ∧ n + m ≤ cap' ∧ SL w' ((b, .cells (vs ++ List.replicate (cap' - n) (Value.int .i64 0)).toArray el (0, 0)) :: L) := .of fun ρ hρ _ _ _ _ => by
  obtain ⟨hu, inf, hi, hsz⟩ := slT_spec ht
  simp only [bytesT, hi, Option.map_some, Option.some.injEq] at hby
  simp only [zeroT, hi, Option.bind_some] at hz
  have hfit := growslice_fits (bytes := inf.bytes) hroom (by rw [hby]; omega)
  have hn : ¬ (n + m ≤ cap) := by omega
  have h63' : ¬ (9223372036854775807 < ((n : Int) + (m : Int))) := by omega
  have h48' : ¬ (281474976710656 < Builtin.nextslicecap (n + m) cap * inf.bytes) := by omega
  have hwr : IntKind.i64.wrap (m : Int) = (m : Int) := qi64 (by omega) (by omega)
  have hneg : ¬ ((m : Int) < 0) := by omega
  have hm48 : ¬ ((281474976710656 : Int) < (m : Int) * inf.bytes) := by rw [hby]; omega
  have hfo := ((hs.src H).drew (w' := w.drew) rfl).first (P := P)
  have hcl := hs.count
  obtain ⟨cap', hcap'⟩ : ∃ c, c = grownCap w (n + m) cap el := ⟨_, rfl⟩
  have hge : n + m ≤ cap' := by rw [hcap']; exact grownCap_ge _ _ _ _
  have hm1 : m ≠ 0 := by omega
  have hrun : (Builtin.append_ #[t, t2] ty #[.slice a n cap, .int .i64 (m : Nat)]).run P w = .ok (.slice (some ⟨w.heap.size, 0, none⟩) (n + m) cap')
      (w.drew.alloc (.cells (vs ++ List.replicate (cap' - n) (Value.int .i64 0)).toArray el)) := by
    have e1 : ∀ k, (Builtin.zeroCells #[Value.int .i64 0] k).toList = List.replicate k (Value.int .i64 0) := fun k => by
      apply List.ext_getElem?
      intro i
      simp [Builtin.zeroCells, List.getElem?_replicate]
      by_cases hik : i < k
      · simp [hik, Nat.mod_one]
      · simp [hik]
    have e2 : ∀ k, Builtin.zeroCells #[Value.int .i64 0] k = (List.replicate k (Value.int .i64 0)).toArray := fun k => by
      apply Array.ext'
      rw [e1]
    have e3 : (vs ++ (List.replicate m (Value.int .i64 0) ++ List.replicate (cap' - (n + m)) (Value.int .i64 0))) = vs ++ List.replicate (cap' - n) (Value.int .i64 0) := by
      rw [List.replicate_append_replicate]
      congr 2
      omega
    rw [← e3]
    subst hcap'
    simp [Builtin.append_, run_underlying hu, run_underlying hu2, sizeOf, typeInfo, zeroValue, asInt, asIntOf, hi, hsz, hz, hn, h63', h48', hwr, hneg, hm48, hm1, Question.forced, hfo, newRow, grownCap, Value.cells, e2]
    congr 2
    apply Array.ext'
    simp
  have e1 : (execOp ρ ⟨‹_›, .call ⟨.builtin .append, #[x, y], #[t, t2]⟩, ty, ‹_›, ‹_›, ‹_›⟩).run P w = .ok (.value (.slice (some ⟨w.heap.size, 0, none⟩) (n + m) cap')) (w.drew.alloc (.cells (vs ++ List.replicate (cap' - n) (Value.int .i64 0)).toArray el)) := by
    simp [execOp, resolve, invoke, builtin, hρ _ _ hx, hρ _ _ hy, hrun]
  rw [e1]
  refine ⟨w.heap.size, cap', rfl, hge, ?_⟩
  have h3 := H.alloc (.cells (vs ++ List.replicate (cap' - n) (Value.int .i64 0)).toArray el (0, 0))
  exact h3.heap rfl ⟨rfl, rfl, rfl⟩

/-- A call of a function that has no body. -/
theorem Ex.callX {f : FuncId} {l : List Operand} {vs : List Value} {ats : Array TypeId} {w' : World} (hl : e.vals l = some vs) (hc : (callFunc f vs.toArray).run P w = .ok (.value v) w') :
    Ex P w e (.call ⟨.value (.func f), l.toArray, ats⟩) ty fun u w2 => u = v ∧ w2 = w' := .of fun ρ hρ _ _ _ _ => by
  have h1 := Env.vals_map hρ hl
  have h2 : ρ (.func f) = .func (.func f) #[] #[] := hρ _ _ rfl
  have h3 : (execOp ρ ⟨‹_›, .call ⟨.value (.func f), l.toArray, ats⟩, ty, ‹_›, ‹_›, ‹_›⟩).run P w = .ok (.value v) w' := by
    simp [execOp, resolve, h2, Deferred.ofValue, invoke, h1, hc]
  rw [h3]
  exact ⟨rfl, rfl⟩

/-- A literal of one element, which is a struct or an array. -/
theorem Ex.buildOne [Strm] {sz : Nat} {cs : List Value} {T : TypeId} {zv : Value} (H : SL w L) (hx : e.val x = some (.agg cs.toArray)) (ht : slT P t = some (T, sz)) (hz : zeroT P T = some zv) (hcs : cs.length = sz) (h0 : 0 < sz) (h24 : sz ≤ 16777216) :
    Ex P w e (.buildSlice t 1 #[(0, x)]) ty fun v w' => ∃ b, v = .slice (some ⟨b, 0, none⟩) 1 1 ∧ SL w' ((b, .cells cs.toArray T (0, 0)) :: L) := by
  refine Ex.buildSlP (len := 1) (l := [(0, x)]) (ps := [(0, .agg cs.toArray)]) (sz := sz) (cs := cs) (zv := zv) H (by simp [Env.partsI, hx]) ht hz ?_ (by omega) (by omega)
  unfold fillP
  simp only [Nat.zero_mul, Value.cells, List.size_toArray, hcs, Nat.zero_add, List.length_map, List.length_range, Nat.one_mul, Nat.le_refl, and_self, if_true, fillP]
  rw [putAt_all (by simp [hcs])]

theorem shape_of {w : World} {b : Nat} {cs : Array Value} {T : TypeId} {fr : Nat × Nat} (h : w.heap[b]? = some (.cells cs T fr)) : w.shape? b = some (T, cs.size) := by simp [World.shape?, h]
theorem thaw_of {w : World} {b off : Nat} {cs : Array Value} {T : TypeId} (h : w.heap[b]? = some (.cells cs T (0, 0))) : w.frozen? ⟨b, off, none⟩ = false := by simp [World.frozen?, h]

end
end Go.Proofs.YtniihnncgblocaaDoor.V
