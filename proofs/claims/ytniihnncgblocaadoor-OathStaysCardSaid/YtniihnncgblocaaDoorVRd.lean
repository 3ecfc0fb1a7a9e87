/-
  The engine: slices whose cells are read where they lie, whatever they are; append onto one that has no room; a slice cut to its length.
-/
import Derived.Test.YtniihnncgblocaaDoorVRows
import Derived.Test.YtniihnncgblocaaDoorVFun
namespace Go.Proofs.YtniihnncgblocaaDoor.V

/-- n elements of sz cells each: their cells are cs. -/
inductive RdS (G : List (Nat × Obj)) (sz : Nat) : Value → Nat → List Value → Prop where
  | nil : RdS G sz (.slice none 0 0) 0 []
  | blk (b off n c : Nat) (cs : List Value) : cs.length = n * sz → n ≤ c → (∀ (i : Nat) v, cs[i]? = some v → Rd G ⟨b, off + i, none⟩ v) → RdS G sz (.slice (some ⟨b, off, none⟩) n c) n cs

section
variable {P : Program} {w : World} {e : Env} {ty t t2 : TypeId} {x y : Operand} {v u : Value} {G L L' B : List (Nat × Obj)} {sz n : Nat} {cs : List Value}

theorem RdS.sub (h : RdS G sz v n cs) (hs : ∀ p ∈ G, p ∈ L) : RdS L sz v n cs := by
  cases h with
  | nil => exact .nil
  | blk b off n c cs hl hc hr => exact .blk b off n c cs hl hc fun i v hi => (hr i v hi).sub hs

theorem RdS.len (h : RdS G sz v n cs) : ∃ a c, v = .slice a n c ∧ n ≤ c := by
  cases h with
  | nil => exact ⟨_, _, rfl, by simp⟩
  | blk b off n c cs hl hc hr => exact ⟨_, _, rfl, hc⟩

theorem RdS.src [Strm] (H : SL w L) (h : RdS L sz v n cs) : Src w sz v n cs := by
  cases h with
  | nil => exact .nil _
  | blk b off n c cs hl hc hr => exact .slice _ _ _ _ hl fun i v hi => by rw [add_none]; exact Rd.cell H (hr i v hi)

theorem RdS.count (h : RdS G sz v n cs) : cs.length = n * sz := by
  cases h with
  | nil => simp
  | blk b off n c cs hl hc hr => exact hl

theorem RdS.at {a : Option Addr} {n' c : Nat} (h : RdS G sz (.slice a n' c) n cs) (hn : 0 < n) : ∃ b off, a = some ⟨b, off, none⟩ ∧ ∀ (i : Nat) v, cs[i]? = some v → Rd G ⟨b, off + i, none⟩ v := by
  generalize hv : Value.slice a n' c = v at h
  cases h with
  | nil => omega
  | blk b off n c cs hl hc hr => cases hv; exact ⟨b, off, rfl, hr⟩

theorem Slc.rdS {α : Type} {g : α → List Value} {T : TypeId} {xs : List α} (h : Slc g sz T v xs B) (hg : ∀ x, (g x).length = sz) : RdS (B ++ L) sz v xs.length (xs.flatMap g) := by
  cases h with
  | nil => exact .nil
  | blk b xs cap spare fr h1 h2 h3 =>
    refine .blk b 0 _ cap _ (flatMap_length hg xs) h2 fun i v hi => ?_
    rw [Nat.zero_add]
    refine Rd.mk (.head _) ?_
    have hlt : i < (xs.flatMap g).length := by
      rcases Nat.lt_or_ge i (xs.flatMap g).length with h | h
      · exact h
      · rw [List.getElem?_eq_none h] at hi; cases hi
    rw [List.getElem?_toArray, List.getElem?_append_left hlt]
    exact hi

/-- 'x[:h:m]' with h = m. -/
theorem Ev.slCap {a : Option Addr} {len cap el : Nat} {h : Nat} {hi mx : Operand} {k k' : IntKind} (hx : e.val x = some (.slice a len cap)) (ht : slT P t = some (el, sz)) (hhi : e.val hi = some (.int k (h : Nat))) (hmx : e.val mx = some (.int k' (h : Nat)))
    (h2 : h ≤ cap) : Ev P w e (.slice t x none (some hi) (some mx)) ty (.slice a h h) := .of fun ρ hρ _ _ _ _ => by
  unfold slT at ht
  cases hu : P.underlying t with
  | none => rw [hu] at ht; cases ht
  | some d =>
    rw [hu] at ht
    cases d <;> first | (cases ht; done) | skip
    rename_i el'
    simp only at ht
    cases hn : P.info? el' with
    | none => rw [hn] at ht; cases ht
    | some inf =>
      rw [hn] at ht
      simp at ht
      obtain ⟨rfl, rfl⟩ := ht
      have hu1 := run_underlying (w := w) hu
      have hb : (Instr.sliceBounds true len cap (none.map ρ) ((some hi).map ρ) ((some mx).map ρ)).run P w = .ok (0, h, h) w := by
        simp [Instr.sliceBounds, Instr.sliceBound, hρ _ _ hhi, hρ _ _ hmx, asIntOf, h2]
      have ec : (if h = 0 then a else a.map (·.add (0 * inf.size))) = a := by
        split
        · rfl
        · cases a with
          | none => rfl
          | some a => simp [Addr.add]
      simp only [execOp, hρ _ _ hx, Instr.sliceAt, Instr.slice, Sem.run_bind, hu1, Result.andThen, hb, sizeOf, typeInfo, run_program, hn, Sem.run_pure, ec, Nat.sub_zero]

theorem RdS.takeS {α : Type} {g : α → List Value} {a : Option Addr} {n' c k : Nat} {xs : List α} (h : RdS G sz (.slice a n' c) xs.length (xs.flatMap g)) (hg : ∀ x, (g x).length = sz) (hk : k ≤ xs.length) :
    RdS G sz (.slice (cutAddr a 0 c sz) (k - 0) (c - 0)) (xs.take k).length ((xs.take k).flatMap g) := by
  rw [cutAddr_zero, Nat.sub_zero, Nat.sub_zero]
  have hl : (xs.take k).length = k := by rw [List.length_take]; omega
  generalize hn : xs.length = n at h hk
  generalize hcs : xs.flatMap g = cs at h
  generalize hv : Value.slice a n' c = v at h
  rw [hl]
  cases h with
  | nil =>
    cases hv
    obtain rfl : k = 0 := by omega
    exact .nil
  | blk b off n c cs h1 h2 h3 =>
    cases hv
    refine .blk b off k c _ (by rw [flatMap_length hg, hl]) (by omega) fun i v hi => h3 i v ?_
    rw [← hcs]
    have e1 : xs.flatMap g = (xs.take k).flatMap g ++ (xs.drop k).flatMap g := by rw [← List.flatMap_append, List.take_append_drop]
    rw [e1]
    have hlt : i < ((xs.take k).flatMap g).length := by
      rcases Nat.lt_or_ge i ((xs.take k).flatMap g).length with h | h
      · exact h
      · rw [List.getElem?_eq_none h] at hi; cases hi
    rw [List.getElem?_append_left hlt]
    exact hi

theorem RdS.dropS {α : Type} {g : α → List Value} {a : Option Addr} {n' c k : Nat} {xs : List α} (h : RdS G sz (.slice a n' c) xs.length (xs.flatMap g)) (hg : ∀ x, (g x).length = sz) (hk : k ≤ xs.length) :
    RdS G sz (.slice (cutAddr a k c sz) (xs.length - k) (c - k)) (xs.drop k).length ((xs.drop k).flatMap g) := by
  rw [List.length_drop]
  have hcnt := flatMap_length hg (xs.drop k)
  rw [List.length_drop] at hcnt
  have hct := flatMap_length hg (xs.take k)
  rw [List.length_take, Nat.min_eq_left hk] at hct
  generalize hn : xs.length = n at h hk hcnt
  generalize hcs : xs.flatMap g = cs at h
  generalize hv : Value.slice a n' c = v at h
  cases h with
  | nil =>
    cases hv
    obtain rfl : k = 0 := by omega
    have : xs = [] := List.eq_nil_of_length_eq_zero hn
    subst this
    rw [cutAddr_zero]
    exact .nil
  | blk b off n c cs h1 h2 h3 =>
    cases hv
    have key : ∀ (i : Nat) v, ((xs.drop k).flatMap g)[i]? = some v → Rd G ⟨b, off + (k * sz + i), none⟩ v := fun i v hi => h3 (k * sz + i) v (by
      rw [← hcs]
      have e1 : xs.flatMap g = (xs.take k).flatMap g ++ (xs.drop k).flatMap g := by rw [← List.flatMap_append, List.take_append_drop]
      rw [e1, List.getElem?_append_right (by omega), hct, Nat.add_sub_cancel_left]
      exact hi)
    by_cases hck : c = k
    · have e : cutAddr (some (⟨b, off, none⟩ : Addr)) k c sz = some ⟨b, off, none⟩ := by simp [cutAddr, hck]
      rw [e]
      have hx0 : xs.drop k = [] := List.drop_eq_nil_of_le (by omega)
      rw [hx0]
      rw [hx0] at hcnt
      exact .blk b off _ _ _ hcnt (by omega) fun i v hi => by simp at hi
    · have e : cutAddr (some (⟨b, off, none⟩ : Addr)) k c sz = some ⟨b, off + k * sz, none⟩ := by simp [cutAddr, hck, add_none]
      rw [e]
      exact .blk b (off + k * sz) _ _ _ hcnt (by omega) fun i v hi => by rw [Nat.add_assoc]; exact key i v hi

/-- Append onto a slice that has no room: a row of one's own. -/
theorem Ex.appendNew [Strm] {α : Type} {g : α → List Value} {by_ : Nat} {T : TypeId} {zv : Value} {xs ys : List α} {a : Option Addr} {cap : Nat} (H : SL w L) (hx : e.val x = some (.slice a xs.length cap)) (hy : e.val y = some u) (hs : RdS L sz (.slice a xs.length cap) xs.length (xs.flatMap g))
    (hsrc : Src w sz u ys.length (ys.flatMap g)) (hroom : cap < xs.length + ys.length) (hg : ∀ x, (g x).length = sz) (ht : slT P t = some (T, sz)) (h2 : srcT P t2 = true) (hby : bytesT P T = some by_)
    (hz : zeroT P T = some zv) (hzs : zv.cells.size = sz) (h63 : xs.length + ys.length ≤ 9223372036854775807) (hbytes : (xs.length + ys.length) * by_ ≤ 140737488355328) :
    Ex P w e (.call ⟨.builtin .append, #[x, y], #[t, t2]⟩) ty fun v' w' => ∃ B', Slc g sz T v' (xs ++ ys) B' ∧ SL w' (B' ++ L) := .of fun ρ hρ _ _ _ _ => by
  have hxs := flatMap_length hg xs
  have hfo : ∀ w', w'.heap = w.heap → (Builtin.firstCells sz xs.length (.slice a xs.length cap)).run P w' = .ok (xs.flatMap g).toArray w' := fun w' hw => by
    have h1 := (hs.src H).drew hw
    exact h1.first
  obtain ⟨w', cap', hr, hc, hh, hk⟩ := run_append_out (P := P) (t := t) (t2 := t2) (ty := ty) ht hby hz h2 hsrc hfo hroom h63 hbytes
  have e1 : (execOp ρ ⟨‹_›, .call ⟨.builtin .append, #[x, y], #[t, t2]⟩, ty, ‹_›, ‹_›, ‹_›⟩).run P w = .ok (.value (.slice (some ⟨w.heap.size, 0, none⟩) (xs.length + ys.length) cap')) w' := by
    simp [execOp, resolve, invoke, builtin, hρ _ _ hx, hρ _ _ hy, hr]
  rw [e1]
  refine ⟨[(w.heap.size, .cells ((xs ++ ys).flatMap g ++ (Builtin.zeroCells zv.cells (cap' - (xs.length + ys.length))).toList).toArray T (0, 0))], ?_, ?_⟩
  · have := Slc.blk (g := g) (sz := sz) (T := T) w.heap.size (xs ++ ys) cap' (Builtin.zeroCells zv.cells (cap' - (xs.length + ys.length))).toList (0, 0) (by rw [zeroCells_len, hzs, List.length_append, ← Nat.add_mul]; congr 1; omega) (by simpa using hc) (Thaw.zero _ _)
    simpa using this
  · have h3 := H.alloc (.cells (xs.flatMap g ++ ys.flatMap g ++ (Builtin.zeroCells zv.cells (cap' - (xs.length + ys.length))).toList).toArray T (0, 0))
    have h4 := h3.heap (w' := w') hh hk
    simpa [List.flatMap_append] using h4

/-- Two results, of which the first lies in memory (a whole block). -/
theorem RunsE.retAggTmp [Strm] {f : FuncId} {Post : Value → World → Prop} {k : List Item} {n : Nat} {fn : Func} {t t' b m : Nat} {ty T : TypeId} {fr : Nat × Nat} {vs : List Value} {v' : Value} {L : List (Nat × Obj)}
    (H : SL w L) (hf : P.funcs[f]? = some fn) (hr : fn.results = #[.cell t ty, .tmp t']) (ht : e.get t = some (.pointer (some ⟨b, 0, none⟩))) (ht' : e.get t' = some v')
    (ha : aggT P ty = some m) (hn : vs.length = m) (hm : (b, Obj.cells vs.toArray T fr) ∈ L) (h : Post (.tuple #[.agg vs.toArray, v']) w) :
    RunsE P ⟨f, none, []⟩ (fun e w' => ∃ v, e = .returned v ∧ Post v w') n (.code .ret :: k) e w := .of fun a ha' => by
  have hl : (loadVar ty ⟨b, 0, none⟩).run P w = .ok (.agg vs.toArray) w := run_loadVar_agg (by rw [ha, hn]) fun i v hv => Rd.cell H (by rw [add_none, Nat.zero_add]; exact Rd.mk hm (by simpa using hv))
  exact .ret hf ha'.defers (by simp [results, hr, ha'.vals t _ ht, ha'.vals t' _ ht', asAddr, hl]) ⟨_, rfl, h⟩

end

abbrev SE := Option Addr × Nat × Nat
abbrev gS (u : SE) : List Value := [.slice u.1 u.2.1 u.2.2]

/-- Slices of bytes, each with what is read there. -/
structure BytesIn (F : List (Nat × Obj)) (us : List SE) (P : List (List UInt8)) : Prop where
  len : us.length = P.length
  el : ∀ (i : Nat) u, us[i]? = some u → Inp F (.slice u.1 u.2.1 u.2.2) (P.getD i [])

theorem BytesIn.sub {F F' : List (Nat × Obj)} {us : List SE} {P : List (List UInt8)} (h : BytesIn F us P) (hs : ∀ p ∈ F, p ∈ F') : BytesIn F' us P := ⟨h.len, fun i u hi => (h.el i u hi).sub hs⟩

theorem BytesIn.set {F : List (Nat × Obj)} {us : List SE} {P : List (List UInt8)} (h : BytesIn F us P) {p : Nat} {u : SE} {bs : List UInt8} (hu : Inp F (.slice u.1 u.2.1 u.2.2) bs) (hp : p < P.length) : BytesIn F (us.set p u) (P.set p bs) := by
  refine ⟨by simp [h.len], fun i x hi => ?_⟩
  have hpl : p < us.length := by rw [h.len]; exact hp
  by_cases hip : p = i
  · subst hip
    rw [List.getElem?_set_self hpl] at hi
    cases hi
    simpa [List.getD_eq_getElem?_getD, hp] using hu
  · rw [List.getElem?_set_ne hip] at hi
    have := h.el i x hi
    simpa [List.getD_eq_getElem?_getD, List.getElem?_set_ne hip] using this

theorem gS_set {us : List SE} {sp : List Value} {p : Nat} (hp : p < us.length) (u : SE) : (us.flatMap gS ++ sp).toArray.setIfInBounds p (.slice u.1 u.2.1 u.2.2) = ((us.set p u).flatMap gS ++ sp).toArray := by
  have hm : ∀ l : List SE, l.flatMap gS = l.map fun u => Value.slice u.1 u.2.1 u.2.2 := fun l => flatMap_one _ l
  rw [hm, hm]
  apply Array.ext'
  simp only [Array.toList_setIfInBounds]
  rw [List.set_append_left _ _ (by simpa using hp), List.map_set]

end Go.Proofs.YtniihnncgblocaaDoor.V
