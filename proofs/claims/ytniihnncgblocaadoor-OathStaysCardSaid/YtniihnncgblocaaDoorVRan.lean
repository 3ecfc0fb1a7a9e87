/-
  The engine: a map's range, its copy; many rows, split.
-/
import Derived.Test.YtniihnncgblocaaDoorOathC
import Derived.Maps.RangeRun
namespace Go.Proofs.YtniihnncgblocaaDoor.V

section
variable {α β : Type} {R : α → β → List (Nat × Obj) → Prop} {l : List α} {xs : List β} {B : List (Nat × Obj)}
theorem Many.split (h : Many R l xs B) : ∀ {i : Nat} {a : α}, l[i]? = some a → ∃ l1 l2 x xs1 xs2 B1 Bi B2, l = l1 ++ a :: l2 ∧ xs = xs1 ++ x :: xs2 ∧ l1.length = i ∧ B = B1 ++ (Bi ++ B2) ∧ Many R l1 xs1 B1 ∧ R a x Bi ∧ Many R l2 xs2 B2 := by
  induction h with
  | nil => intro i a h; simp at h
  | cons hr hm ih =>
    rename_i a0 x0 l' xs' B Bs
    intro i a hi
    cases i with
    | zero =>
      simp at hi
      subst hi
      exact ⟨[], l', x0, [], xs', [], B, Bs, rfl, rfl, rfl, rfl, .nil, hr, hm⟩
    | succ i =>
      simp at hi
      obtain ⟨l1, l2, x, xs1, xs2, B1, Bi, B2, rfl, rfl, h3, rfl, h5, h6, h7⟩ := ih hi
      exact ⟨a0 :: l1, l2, x, x0 :: xs1, xs2, B ++ B1, Bi, B2, rfl, rfl, by simp [h3], by simp, .cons hr h5, h6, h7⟩

theorem Many.append {l2 : List α} {xs2 : List β} {B2 : List (Nat × Obj)} (h : Many R l xs B) (h2 : Many R l2 xs2 B2) : Many R (l ++ l2) (xs ++ xs2) (B ++ B2) := by
  induction h with
  | nil => simpa using h2
  | cons hr _ ih =>
    have := Many.cons hr ih
    simpa using this

theorem Many.impM {R' : α → β → List (Nat × Obj) → Prop} (h : Many R l xs B) (hi : ∀ a ∈ l, ∀ x B, R a x B → R' a x B) : Many R' l xs B := by
  induction h with
  | nil => exact .nil
  | cons h0 _ ih => exact .cons (hi _ (.head _) _ _ h0) (ih fun a ha => hi a (.tail _ ha))
end

/-- An iterator over the map m. -/
def iterO (m since : Nat) (seen : List Nat) (last : Nat) : Obj := .mapIter (some m) since seen.toArray last

/-- What is still to come. -/
def leftE (es : List Ent) (seen : List Nat) : Nat := (leftOf (es.map entM).toArray seen.toArray).size

section
variable {P : Program} {w : World} {e : Env} {ty t t2 k v n : TypeId} {x y z : Operand} {L L' : List (Nat × Obj)}

theorem run_equalIn_mapNil {k v : TypeId} {m : Option Nat} (hu : P.underlying t = some (.map k v)) (d : Nat) : (Op.equalIn (d + 1) t (.map m) (.map none)).run P w = .ok m.isNone w := by
  have h1 := run_underlying (w := w) hu
  cases m <;> simp [Op.equalIn, h1]

theorem Ev.mapNilEq {t' k v : TypeId} {m : Option Nat} (hx : e.val x = some (.map m)) (hy : e.val y = some (.map none)) (hu : P.underlying t = some (.map k v)) : Ev P w e (.binOp .eql t x y t') ty (.bool m.isNone) := .of fun ρ hρ _ _ _ _ => by
  have h := run_equal_of (w := w) fun d => run_equalIn_mapNil (m := m) hu d
  simp [execOp, hρ _ _ hx, hρ _ _ hy, eqGuard, binOp, h]

/-- 'x.(T)' without ok, where it holds that type. -/
theorem Ev.assertIs {T : TypeId} {d : TypeDesc} {u : Value} (hx : e.val x = some (.iface T u)) (hu : P.underlying T = some d) (hd : (match d with | .interface _ => false | _ => true) = true) : Ev P w e (.typeAssert x t T false) ty u := .of fun ρ hρ _ _ _ _ => by
  have h1 := run_underlying (w := w) hu
  simp only [execOp, hρ _ _ hx, Instr.typeAssert, Sem.run_bind, h1, Result.andThen]
  cases d <;> first | (simp; done) | simp at hd

theorem Ex.range [Strm] {m clock : Nat} {es : List Ent} (H : SL w L) (hx : e.val x = some (.map (some m))) (hu : P.underlying t = some (.map k v)) (hm : (m, mapO es clock) ∈ L) :
    Ex P w e (.range t x) ty fun u w' => ∃ r, u = .pointer (some ⟨r, 0, none⟩) ∧ SL w' ((r, iterO m clock [] clock) :: L) := .of fun ρ hρ _ _ _ _ => by
  have hb := H.1 _ hm
  simp only [mapO] at hb
  simp only [execOp, hρ _ _ hx, Instr.range, Sem.run_bind, run_underlying hu, Result.andThen, MapKept.run_getObj_map hb, Sem.run_pure, run_newObj]
  exact ⟨w.heap.size, rfl, H.alloc _⟩

/-- One step of a range: what is still to come, whichever. -/
theorem Ex.next [Strm] {r m clock : Nat} {es : List Ent} {seen : List Nat} {M : Obj → List (Nat × Obj)} (H : SL w (M (iterO m clock seen clock))) (hx : e.val x = some (.pointer (some ⟨r, 0, none⟩))) (hu : ∀ o', Upd r (iterO m clock seen clock) o' (M (iterO m clock seen clock)) (M o'))
    (hm : (m, mapO es clock) ∈ M (iterO m clock seen clock)) (hB : ∀ x ∈ es, x.2.2 < clock) :
    Ex P w e (.next x false) ty fun u w' => (leftE es seen = 0 ∧ u = .tuple #[.bool false] ∧ SL w' (M (iterO m clock seen clock))) ∨
      ∃ a ∈ es, a.2.2 ∉ seen ∧ u = .tuple #[.bool true, hV a.1, a.2.1] ∧ SL w' (M (iterO m clock (seen ++ [a.2.2]) clock)) := .of fun ρ hρ _ _ _ _ => by
  have hb := H.1 _ hm
  have hr := H.1 _ (hu (iterO m clock seen clock)).mem
  simp only [mapO] at hb
  simp only [iterO] at hr
  have hlt : r < w.heap.size := by
    rcases Nat.lt_or_ge r w.heap.size with h | h
    · exact h
    · rw [Array.getElem?_eq_none h] at hr; cases hr
  have hall : ∀ x ∈ ((es.map entM).toArray).toList, x.born < clock := fun x hx => by
    obtain ⟨a, ha, rfl⟩ := List.mem_map.1 hx
    exact hB a ha
  rcases run_next_at (P := P) w ty r m clock clock seen.toArray (es.map entM).toArray clock hr hb hall (Nat.le_refl _) with ⟨h0, hrun⟩ | ⟨x, hxl, w1, hw1, hrun⟩
  · have e1 : (execOp ρ ⟨‹_›, .next x false, ty, ‹_›, ‹_›, ‹_›⟩).run P w = .ok (.value (.tuple #[.bool false])) w := by
      simp only [execOp, hρ _ _ hx, Sem.run_bind, hrun, Result.andThen, Sem.run_pure]
    rw [e1]
    exact .inl ⟨h0, rfl, H⟩
  · have h1 := hxl
    simp only [leftOf, Array.toList_filter, List.mem_filter, List.mem_map] at h1
    obtain ⟨⟨a, ha, rfl⟩, hns⟩ := h1
    have e1 : (execOp ρ ⟨‹_›, .next x false, ty, ‹_›, ‹_›, ‹_›⟩).run P w = .ok (.value (.tuple #[.bool true, hV a.1, a.2.1])) (ChangeMaps.setBlock w1 r (.mapIter (some m) clock (seen.toArray.push a.2.2) clock)) := by
      simp only [execOp, hρ _ _ hx, Sem.run_bind, hrun, Result.andThen, Sem.run_pure]
      rfl
    rw [e1]
    refine .inr ⟨a, ha, fun hm => ?_, rfl, ?_⟩
    · have : seen.toArray.contains (entM a).born = true := by simpa [entM] using hm
      rw [this] at hns
      cases hns
    · have e2 : Obj.mapIter (some m) clock (seen.toArray.push a.2.2) clock = iterO m clock (seen ++ [a.2.2]) clock := by
        unfold iterO
        congr 1
        apply Array.ext'
        simp
      rw [e2]
      have H1 : SL w1 (M (iterO m clock seen clock)) := by
        rcases hw1 with rfl | rfl
        · exact H
        · exact H.heap rfl ⟨rfl, rfl, rfl⟩
      have hlt1 : r < w1.heap.size := by rcases hw1 with rfl | rfl <;> exact hlt
      refine H1.upd (hu _) (by simp [ChangeMaps.setBlock, hlt1]) (fun c hc => ?_) ⟨rfl, rfl, rfl⟩
      simp [ChangeMaps.setBlock, Ne.symm hc]

/-- The entry of this step. -/
theorem Ev.entry [Strm] {r m clock : Nat} {es : List Ent} {seen : List Nat} {a : Ent} (H : SL w L) (hx : e.val x = some (.pointer (some ⟨r, 0, none⟩))) (hr : (r, iterO m clock (seen ++ [a.2.2]) clock) ∈ L) (hm : (m, mapO es clock) ∈ L) (ha : a ∈ es) (hn : (es.map (·.2.2)).Nodup) :
    Ev P w e (.entry x) ty (.tuple #[hV a.1, a.2.1]) := .of fun ρ hρ _ _ _ _ => by
  have hb := H.1 _ hm
  have hr := H.1 _ hr
  simp only [mapO] at hb
  have e2 : iterO m clock (seen ++ [a.2.2]) clock = Obj.mapIter (some m) clock (seen.toArray.push (entM a).born) clock := by
    unfold iterO
    congr 1
    apply Array.ext'
    simp [entM]
  rw [e2] at hr
  have h3 := run_entry_at (P := P) w r m clock seen.toArray (es.map entM).toArray clock (entM a) hr hb (List.mem_map_of_mem (f := entM) ha) (by
    have : ((es.map entM).toArray.toList.map (·.born)) = es.map (·.2.2) := by simp [Function.comp_def, entM]
    rw [this]; exact hn)
  simp only [execOp, hρ _ _ hx, Sem.run_bind, h3, Result.andThen, Sem.run_pure]
  rfl

/-- maps.Clone's own copy. -/
theorem Ex.copyMap [Strm] {f m clock : Nat} {es : List Ent} {T : TypeId} {l : List Operand} {ats : Array TypeId} {fn : Func} (H : SL w L) (hl : e.vals l = some [.iface T (.map (some m))]) (hm : (m, mapO es clock) ∈ L) (hf : P.funcs[f]? = some fn) (hname : (fn.name == "runtime.NumGoroutine") = false)
    (hb : fn.body.isNone = true) (hn : Extern.findNext fn = none) (he : Extern.find fn = some Extern.MapsClone.clone) :
    Ex P w e (.call ⟨.value (.func f), l.toArray, ats⟩) ty fun u w' => ∃ m2, u = .iface T (.map (some m2)) ∧ SL w' ((m2, mapO es clock) :: L) := by
  have hbm := H.1 _ hm
  simp only [mapO] at hbm
  have h2 : (Extern.MapsClone.clone [Value.iface T (.map (some m))].toArray).run P w = .ok (.iface T (.map (some w.heap.size))) (w.alloc (mapO es clock)) := by
    show Sem.run P (α := Value) (do
      let .map entries clock ← getObj m | stuck "maps.clone: a map expected"
      pure (Value.iface T (.map (some (← newObj (.map entries clock)))))) w = _
    simp only [Sem.run_bind, MapKept.run_getObj_map hbm, Result.andThen, run_newObj, Sem.run_pure]
    rfl
  refine (Ex.callX hl (v := .iface T (.map (some w.heap.size))) (w' := w.alloc (mapO es clock)) ?_).mono ?_
  · rw [run_callFunc_extern hf hname hb hn he, h2]
    rfl
  · rintro u w' ⟨rfl, rfl⟩
    exact ⟨_, rfl, H.alloc _⟩

/-- What a step yields. -/
def nextT : Option Ent → Array Value
  | none => #[.bool false]
  | some a => #[.bool true, hV a.1, a.2.1]
theorem nextT_0 (o : Option Ent) : (nextT o)[0]? = some (.bool o.isSome) := by cases o <;> rfl
def seenT (seen : List Nat) : Option Ent → List Nat
  | none => seen
  | some a => seen ++ [a.2.2]

theorem Ex.nextO [Strm] {r m clock : Nat} {es : List Ent} {seen : List Nat} {M : Obj → List (Nat × Obj)} (H : SL w (M (iterO m clock seen clock))) (hx : e.val x = some (.pointer (some ⟨r, 0, none⟩))) (hu : ∀ o', Upd r (iterO m clock seen clock) o' (M (iterO m clock seen clock)) (M o'))
    (hm : (m, mapO es clock) ∈ M (iterO m clock seen clock)) (hB : ∀ x ∈ es, x.2.2 < clock) :
    Ex P w e (.next x false) ty fun u w' => ∃ o : Option Ent, u = .tuple (nextT o) ∧ (o = none → leftE es seen = 0) ∧ (∀ a, o = some a → a ∈ es ∧ a.2.2 ∉ seen) ∧ SL w' (M (iterO m clock (seenT seen o) clock)) := by
  refine (Ex.next H hx hu hm hB).mono ?_
  rintro u w' (⟨h0, rfl, H⟩ | ⟨a, ha, hns, rfl, H⟩)
  · exact ⟨none, rfl, fun _ => h0, fun a h => (by cases h), H⟩
  · exact ⟨some a, rfl, fun h => (by cases h), fun a' h => (by cases h; exact ⟨ha, hns⟩), H⟩

/-- How many are still to come: told by the stamps. -/
theorem leftE_eq (es : List Ent) (seen : List Nat) : leftE es seen = ((es.map (·.2.2)).filter fun b => !seen.contains b).length := by
  unfold leftE leftOf
  rw [← Array.length_toList, Array.toList_filter, List.filter_map, List.filter_map, List.length_map, List.length_map]
  congr 1
  apply List.filter_congr
  intro a _
  rw [Bool.eq_iff_iff]
  simp [entM]
  exact decide_eq_false_iff_not

theorem leftE_step {es : List Ent} {seen : List Nat} {b : Nat} (hb : b ∈ es.map (·.2.2)) (hn : b ∉ seen) : leftE es (seen ++ [b]) < leftE es seen := by
  rw [leftE_eq, leftE_eq]
  have e1 : ((es.map (·.2.2)).filter fun x => !(seen ++ [b]).contains x) = ((es.map (·.2.2)).filter fun x => !seen.contains x).filter fun x => !(x == b) := by
    rw [List.filter_filter]
    apply List.filter_congr
    intro x _
    by_cases hx : x = b
    · subst hx; simp
    · simp [hx]
  rw [e1, List.length_filter_lt_length_iff_exists]
  exact ⟨b, List.mem_filter.2 ⟨hb, by simpa using hn⟩, by simp⟩

theorem leftE_all {es : List Ent} {seen : List Nat} (h : leftE es seen = 0) : ∀ x ∈ es, x.2.2 ∈ seen := fun x hx => by
  rw [leftE_eq] at h
  have h2 := List.filter_eq_nil_iff.1 (List.eq_nil_of_length_eq_zero h) x.2.2 (List.mem_map_of_mem (f := fun y : Ent => y.2.2) hx)
  simpa using h2

end
end Go.Proofs.YtniihnncgblocaaDoor.V
