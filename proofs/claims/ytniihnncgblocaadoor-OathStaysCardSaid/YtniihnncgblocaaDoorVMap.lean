/-
  The engine: maps of one's own, keyed by arrays of bytes.
-/
import Derived.Test.YtniihnncgblocaaDoorVRd
import Derived.Maps.Keyed
import Derived.DeepKeys4
import Derived.Lib.Overlaps
namespace Go.Proofs.YtniihnncgblocaaDoor.V
open Go.ChangeShapes Go.WideShapes

abbrev hV (h : List UInt8) : Value := .agg (h.map BV).toArray

theorem mapM_some {α β : Type} {f : α → Option β} {g : α → β} : ∀ {l : List α}, (∀ x ∈ l, f x = some (g x)) → l.mapM f = some (l.map g)
  | [], _ => rfl
  | x :: r, h => by
    rw [List.mapM_cons, h x (.head _), mapM_some fun y hy => h y (.tail _ hy)]
    rfl

theorem u8_wf (b : UInt8) : (Lit.int .u8 (b.toNat : Int)).wf = true := by
  have := b.toNat_lt
  simp [Lit.wf, IntKind.min, IntKind.max, IntKind.signed, IntKind.bits]
  omega

/-- An array of bytes is a key. -/
theorem keyOf_bytes {P : Program} {k el n : Nat} {h : List UInt8} (hk : P.underlying k = some (.array n el)) (he : P.underlying el = some (.int .u8)) (hc : P.cellsOf el = 1) (hck : P.cellsOf k = n) (hkt : P.keyType k = true) (hp : 0 < P.types.size) (hn : h.length = n) :
    ∃ l, keyOf P k (hV h) = some l := by
  have hf : (hV h).formed P k = true := by simp [Value.formed, hk, hck, hn]
  have hd : ∃ d, P.types.size + 1 = d + 2 := ⟨P.types.size - 1, by omega⟩
  obtain ⟨d, hd⟩ := hd
  have hl : P.keyLits (P.types.size + 1) k (hV h).cells.toList = some (((List.range n).map fun i => [Lit.int .u8 ((h.getD i 0).toNat : Int)]).flatten) := by
    rw [hd]
    unfold Program.keyLits
    simp only [hk, Value.cells, List.length_map, hn, hck, if_true, hc, Nat.mul_one]
    rw [mapM_some (g := fun i => [Lit.int .u8 ((h.getD i 0).toNat : Int)])]
    · rfl
    · intro i hi
      have hi' := List.mem_range.1 hi
      have e1 : ((h.map BV).drop i).take 1 = [BV (h.getD i 0)] := by
        rw [List.drop_eq_getElem_cons (by simp; omega)]
        simp [List.getD_eq_getElem?_getD, show i < h.length by omega]
      rw [e1]
      unfold Program.keyLits
      simp only [he]
      rw [if_pos ⟨trivial, u8_wf _⟩]
  unfold keyOf
  simp only [hk, hkt, hf, Bool.and_self, if_true, hl, Option.map_some]
  exact ⟨_, rfl⟩

/-- The type t: maps from arrays of n bytes to v. -/
structure MapT (P : Program) (t k v n : Nat) : Prop where
  map : P.underlying t = some (.map k v)
  keyed : Maps.Keyed P k
  key : ∀ h : List UInt8, h.length = n → ∃ l, keyOf P k (hV h) = some l

theorem MapT.of {P : Program} {t k v n el m : Nat} (hl : laidOutB P = true) (ht : P.underlying t = some (.map k v)) (hk : P.underlying k = some (.array n el)) (he : P.underlying el = some (.int .u8)) (hc : P.cellsOf el = 1) (hck : P.cellsOf k = n)
    (hkt : P.keyType k = true) (hrow : k < P.types.size) (hm : m + 1 ≤ 10000) (hkm : P.keyTypeAt m k = true) : MapT P t k v n :=
  ⟨ht, Maps.Keyed.of_law (deep_law_laid hl hm hrow hkm (by rw [hk])), fun _ hn => keyOf_bytes hk he hc hck hkt (by omega) hn⟩

/-- Entries: keys of n bytes each. -/
abbrev Ent := List UInt8 × Value × Nat
def entM (x : Ent) : MapEntry := { key := hV x.1, val := x.2.1, born := x.2.2 }
def mapO (es : List Ent) (clock : Nat) : Obj := .map (es.map entM).toArray clock

theorem bv_inj {a b : List UInt8} (h : hV a = hV b) : a = b := by
  have h1 := Array.toList_inj.2 (Value.agg.inj h)
  simp only at h1
  refine (List.map_inj_right ?_).1 h1
  intro x y hxy
  have : (x.toNat : Int) = y.toNat := (Value.int.inj hxy).2
  exact UInt8.toNat_inj.1 (by omega)

section
variable {P : Program} {w : World} {e : Env} {ty t k v n : TypeId} {x y z : Operand} {L L' : List (Nat × Obj)}

theorem Ex.makeMap [Strm] (H : SL w L) : Ex P w e (.makeMap t none) ty fun u w' => ∃ b, u = .map (some b) ∧ SL w' ((b, mapO [] 0) :: L) := .of fun ρ hρ _ _ _ _ => by
  simp only [execOp, Option.map_none, Instr.makeMap, Sem.run_bind, run_newObj, Result.andThen, Sem.run_pure]
  exact ⟨w.heap.size, rfl, H.alloc _⟩

/-- What is found at a key. -/
def atKey (es : List Ent) (h : List UInt8) : Option Ent := es.find? fun x => x.1 == h

theorem find_run (T : MapT P t k v n) {es : List Ent} {h : List UInt8} (hn : ∀ x ∈ es, x.1.length = n) (hh : h.length = n) :
    ((Instr.findKey k (hV h) (es.map entM)).run P w = .ok none w ∧ ∀ x ∈ es, x.1 ≠ h) ∨ ∃ j x, (Instr.findKey k (hV h) (es.map entM)).run P w = .ok (some (j, x.2.1)) w ∧ es[j]? = some x ∧ x.1 = h := by
  obtain ⟨l, hl⟩ := T.key h hh
  rcases T.keyed.find w hl (es.map entM) (fun e he => by obtain ⟨x, hx, rfl⟩ := List.mem_map.1 he; exact T.key _ (hn x hx)) with ⟨h1, h2⟩ | ⟨j, e0, h1, h2, h3⟩
  · exact .inl ⟨h1, fun x hx he => h2 _ (List.mem_map_of_mem (f := entM) hx) (by rw [← he]; rfl)⟩
  · rw [List.getElem?_map] at h2
    obtain ⟨x, hx, rfl⟩ := Option.map_eq_some_iff.1 h2
    exact .inr ⟨j, x, h1, hx, bv_inj h3⟩

/-- 'm[k]', without its ok. -/
theorem Ev.lookup [Strm] {b clock : Nat} {es : List Ent} {h : List UInt8} {zv : Value} (H : SL w L) (T : MapT P t k v n) (hx : e.val x = some (.map (some b))) (hy : e.val y = some (hV h)) (hm : (b, mapO es clock) ∈ L)
    (hn : ∀ x ∈ es, x.1.length = n) (hh : h.length = n) (hz : zeroT P v = some zv) {r : Value} (hr : (∀ x ∈ es, x.1 ≠ h) → r = zv) (hr2 : ∀ (j : Nat) x, es[j]? = some x → x.1 = h → r = x.2.1) : Ev P w e (.lookup t x y false) ty r := .of fun ρ hρ _ _ _ _ => by
  have hb := H.1 _ hm
  simp only [mapO] at hb
  obtain ⟨l, hl⟩ := T.key h hh
  have hc := T.keyed.check w ((es.map entM).toArray.isEmpty) hl
  have hzr : (zeroValue v).run P w = .ok zv w := by
    unfold zeroT at hz
    cases hi : P.info? v with
    | none => rw [hi] at hz; cases hz
    | some i => rw [hi] at hz; simp only [Option.bind_some] at hz; simp [zeroValue, typeInfo, hi, hz]
  simp only [execOp, hρ _ _ hx, hρ _ _ hy, Instr.lookup, Sem.run_bind, run_underlying T.map, Result.andThen, MapKept.run_getObj_map hb, Sem.run_pure, hc]
  rcases find_run (w := w) T hn hh with ⟨h1, h2⟩ | ⟨j, x, h1, h2, h3⟩
  · simp [h1, hzr, hr h2]
  · simp [h1, hr2 j x h2 h3]

/-- 'm[k] = v'. -/
theorem Ex.mapUpdate [Strm] {b clock : Nat} {es : List Ent} {h : List UInt8} {u : Value} {M : Obj → List (Nat × Obj)} (H : SL w (M (mapO es clock))) (T : MapT P t k v n) (hx : e.val x = some (.map (some b))) (hy : e.val y = some (hV h)) (hv : e.val z = some u)
    (hu : ∀ o', Upd b (mapO es clock) o' (M (mapO es clock)) (M o')) (hn : ∀ x ∈ es, x.1.length = n) (hh : h.length = n) :
    Ex P w e (.mapUpdate t x y z) ty fun _ w' => ((∀ x ∈ es, x.1 ≠ h) ∧ SL w' (M (mapO (es ++ [(h, u, clock)]) (clock + 1)))) ∨ ∃ j x, es[j]? = some x ∧ x.1 = h ∧ SL w' (M (mapO (es.set j (h, u, x.2.2)) clock)) := .of fun ρ hρ _ _ _ _ => by
  have hb0 := H.1 _ (hu (mapO es clock)).mem
  have hb := hb0
  simp only [mapO] at hb
  obtain ⟨l, hl⟩ := T.key h hh
  have hc := T.keyed.check w false hl
  have hlt : b < w.heap.size := by
    rcases Nat.lt_or_ge b w.heap.size with h | h
    · exact h
    · rw [Array.getElem?_eq_none h] at hb; cases hb
  have fin : ∀ o', SL { w with heap := w.heap.setIfInBounds b o' } (M o') := fun o' => by
    refine H.upd (hu o') (by simp [hlt]) (fun c hc => ?_) ⟨rfl, rfl, rfl⟩
    simp [Ne.symm hc]
  simp only [execOp, hρ _ _ hx, hρ _ _ hy, hρ _ _ hv, Instr.mapUpdate, Sem.run_bind, run_underlying T.map, Result.andThen, MapKept.run_getObj_map hb, hc]
  rcases find_run (w := w) T hn hh with ⟨h1, h2⟩ | ⟨j, x, h1, h2, h3⟩
  · simp only [h1, MapKept.run_setObj_map _ hb]
    have e1 : Obj.map ((es.map entM).toArray.push { key := hV h, val := u, born := clock }) (clock + 1) = mapO (es ++ [(h, u, clock)]) (clock + 1) := by
      simp [mapO, entM]
    rw [e1]
    exact .inl ⟨h2, fin _⟩
  · obtain ⟨xk, xv, xb⟩ := x
    simp only at h3
    subst h3
    have e0 : ((((es.map entM).toArray[j]?).map (·.key)).getD (hV xk)) = hV xk := by
      simp [h2, entM]
    have hst := T.keyed.stays w hl
    simp only [h1, e0, hst, Sem.run_bind, Result.andThen, MapKept.run_setObj_map _ hb]
    have e1 : Obj.map ((es.map entM).toArray.modify j fun e => { e with key := hV xk, val := u }) clock = mapO (es.set j (xk, u, xb)) clock := by
      simp only [mapO]
      congr 1
      apply Array.ext_getElem?
      intro i
      simp only [Array.getElem?_modify, List.getElem?_toArray, List.getElem?_map, List.getElem?_set]
      by_cases hji : j = i
      · subst hji
        have hlt' : j < es.length := by
          rcases Nat.lt_or_ge j es.length with h | h
          · exact h
          · rw [List.getElem?_eq_none h] at h2; cases h2
        rw [h2]
        simp [hlt', entM]
      · simp [hji]
    rw [e1]
    exact .inr ⟨j, _, h2, rfl, fin _⟩
end

/-! ### Many rows of one's own -/

/-- Things in a row, each with blocks of its own. -/
inductive Many {α β : Type} (R : α → β → List (Nat × Obj) → Prop) : List α → List β → List (Nat × Obj) → Prop where
  | nil : Many R [] [] []
  | cons {a : α} {x : β} {as : List α} {xs : List β} {B Bs : List (Nat × Obj)} : R a x B → Many R as xs Bs → Many R (a :: as) (x :: xs) (B ++ Bs)

section
variable {α β : Type} {R : α → β → List (Nat × Obj) → Prop} {as : List α} {xs : List β} {B : List (Nat × Obj)}
theorem Many.length (h : Many R as xs B) : as.length = xs.length := by
  induction h with
  | nil => rfl
  | cons _ _ ih => simp [ih]

theorem Many.at (h : Many R as xs B) : ∀ {i : Nat} {a : α}, as[i]? = some a → ∃ x B1 Bi B2, xs[i]? = some x ∧ B = B1 ++ (Bi ++ B2) ∧ R a x Bi ∧ ∀ a' x' Bi', R a' x' Bi' → Many R (as.set i a') (xs.set i x') (B1 ++ (Bi' ++ B2)) := by
  induction h with
  | nil => intro i a h; simp at h
  | cons hr hm ih =>
    rename_i a0 x0 as xs B Bs
    intro i a hi
    cases i with
    | zero =>
      simp at hi
      subst hi
      exact ⟨x0, [], B, Bs, rfl, rfl, hr, fun a' x' Bi' h' => by simpa using Many.cons h' hm⟩
    | succ i =>
      simp at hi
      obtain ⟨x, B1, Bi, B2, h1, rfl, h3, h4⟩ := ih hi
      exact ⟨x, B ++ B1, Bi, B2, by simpa using h1, by simp, h3, fun a' x' Bi' h' => by
        have := Many.cons hr (h4 a' x' Bi' h')
        simpa using this⟩

theorem Many.push {a : α} {x : β} {Bi : List (Nat × Obj)} (h : Many R as xs B) (hr : R a x Bi) : Many R (as ++ [a]) (xs ++ [x]) (B ++ Bi) := by
  induction h with
  | nil => simpa using Many.cons hr .nil
  | cons h0 _ ih =>
    have := Many.cons h0 ih
    simpa using this

theorem Many.imp {R' : α → β → List (Nat × Obj) → Prop} (h : Many R as xs B) (hi : ∀ a x B, R a x B → R' a x B) : Many R' as xs B := by
  induction h with
  | nil => exact .nil
  | cons h0 _ ih => exact .cons (hi _ _ _ h0) ih
end

end Go.Proofs.YtniihnncgblocaaDoor.V
