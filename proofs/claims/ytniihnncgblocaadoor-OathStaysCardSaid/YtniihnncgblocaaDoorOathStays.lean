/-
  The statement 'OathStays': its function, walked.
-/
import Derived.Test.YtniihnncgblocaaDoorOathK
namespace Go.Proofs.YtniihnncgblocaaDoor.V
open Go.ChangeShapes Go.WideShapes

/-- All that was laid in behind L, of the first n. -/
def laidFrom (L : List Sg) (l : List SgI) (n : Nat) : List Sg := (l.take n).foldl (fun L p => addZ L p.1 p.2) L

theorem laidFrom_succ {L : List Sg} {l : List SgI} {n : Nat} {p : SgI} (h : l[n]? = some p) : laidFrom L l (n + 1) = addZ (laidFrom L l n) p.1 p.2 := by
  unfold laidFrom
  rw [List.take_add_one, h, List.foldl_append]
  rfl

theorem fold_signs : ∀ (ps : List SgI) (L : List Sg), Signs L → Signs (ps.foldl (fun L p => addZ L p.1 p.2) L) ∧ (ps.foldl (fun L p => addZ L p.1 p.2) L).length ≤ L.length + ps.length
  | [], L, h => ⟨h, by simp⟩
  | p :: ps, L, h => by
    have h1 := fold_signs ps (addZ L p.1 p.2) (h.add _ _)
    have h2 := addZ_len L p.1 p.2
    refine ⟨h1.1, ?_⟩
    rw [List.foldl_cons, List.length_cons]
    omega

theorem fold_has : ∀ (ps : List SgI) (L : List Sg) (z : Int) (h : Hash), hasZ (ps.foldl (fun L p => addZ L p.1 p.2) L) z h = (hasZ L z h || (inZ z && ps.any fun p => decide (p = (z, h))))
  | [], L, z, h => by simp
  | p :: ps, L, z, h => by
    rw [List.foldl_cons, fold_has ps, hasZ_add, List.any_cons]
    obtain ⟨a, b⟩ := p
    simp only
    by_cases ha : a = z
    · subst ha
      by_cases hb : b = h
      · subst hb; cases inZ a <;> simp
      · simp [hb]
    · simp [ha]

theorem laidL_has (l : List SgI) (n : Nat) (z : Int) (h : Hash) : hasZ (laidL l n) z h = (inZ z && (l.take n).any fun p => decide (p = (z, h))) := by
  unfold laidL
  rw [fold_has]
  rfl

theorem laidL_in {l : List SgI} {n i : Nat} {z : Int} {h : Hash} (hi : l[i]? = some (z, h)) (hn : i < n) : hasZ (laidL l n) z h = inZ z := by
  rw [laidL_has]
  have : ((l.take n).any fun p => decide (p = (z, h))) = true := by
    rw [List.any_eq_true]
    exact ⟨(z, h), List.mem_of_getElem? (i := i) (by rw [List.getElem?_take, if_pos hn]; exact hi), by simp⟩
  rw [this, Bool.and_true]

theorem laidFrom_in {L : List Sg} {m : List SgI} {n : Nat} {z : Int} {h : Hash} (hL : hasZ L z h = inZ z) : hasZ (laidFrom L m n) z h = inZ z := by
  unfold laidFrom
  rw [fold_has, hL]
  cases inZ z <;> simp

/-- Signatures that came in, their numbers within 64 bits. -/
def SgAtW (L : List (Nat × Obj)) (b off : Nat) (x : SgI) : Prop := SgAt L b off x ∧ (Lit.int .i64 x.1).wf = true

theorem keyLits_bytes {P : Program} {k el n d : Nat} {h : List UInt8} (hk : P.underlying k = some (.array n el)) (he : P.underlying el = some (.int .u8)) (hc : P.cellsOf el = 1) (hck : P.cellsOf k = n) (hn : h.length = n) : ∃ ls, P.keyLits (d + 2) k (h.map BV) = some ls := by
  refine ⟨((List.range n).map fun i => [Lit.int .u8 ((h.getD i 0).toNat : Int)]).flatten, ?_⟩
  unfold Program.keyLits
  simp only [hk, List.length_map, hn, hck, if_true, hc, Nat.mul_one]
  rw [mapM_some (g := fun i => [Lit.int .u8 ((h.getD i 0).toNat : Int)])]
  · rfl
  · intro i hi
    have hi' := List.mem_range.1 hi
    have e1 : ((h.map BV).drop i).take 1 = [BV (h.getD i 0)] := by
      rw [List.drop_eq_getElem_cons (by simp; omega)]
      simp [List.getD_eq_getElem?_getD, show i < h.length by omega]
    rw [e1]
    unfold Program.keyLits
    simp only [he]
    rw [if_pos ⟨trivial, u8_wf _⟩]

end Go.Proofs.YtniihnncgblocaaDoor.V
namespace Go.Proofs.YtniihnncgblocaaDoor
open Go.Proofs.YtniihnncgblocaaDoor.V
open Go.ChangeShapes Go.WideShapes

theorem sgKey (x : SgI) (hw : (Lit.int .i64 x.1).wf = true) : ∃ l, keyOf Tryd.prog 40 (.agg (gI1 x).toArray) = some l := by
  have hu := Tryd.underlying40
  have hkt : Tryd.prog.keyType 40 = true := by decide +kernel
  have hcell : Tryd.prog.cellsOf 40 = 33 := by kernel_rfl
  have c3 : Tryd.prog.cellsOf 3 = 1 := by kernel_rfl
  have c25 : Tryd.prog.cellsOf 25 = 32 := by kernel_rfl
  have hsz : Nat.ble 41 Tryd.prog.types.size = true := by kernel_rfl
  obtain ⟨d, hd⟩ : ∃ d, Tryd.prog.types.size + 1 = d + 3 := ⟨Tryd.prog.types.size - 2, by have := Nat.le_of_ble_eq_true hsz; omega⟩
  have hlen : (gI1 x).length = 33 := by rw [List.length_cons, gH_len]
  have hf : (Value.agg (gI1 x).toArray).formed Tryd.prog 40 = true := by
    simp only [Value.formed, hu, hcell, List.size_toArray, hlen]
    rfl
  obtain ⟨ls, hls⟩ := keyLits_bytes (d := d) (h := x.2.1) Tryd.underlying25 Tryd.underlying5 (by kernel_rfl) c25 x.2.2
  have h0 : Tryd.prog.keyLits (d + 2) 3 [.int .i64 x.1] = some [.int .i64 x.1] := by
    unfold Program.keyLits
    simp only [Tryd.underlying3]
    rw [if_pos ⟨trivial, hw⟩]
  have hl : ∃ ls', Tryd.prog.keyLits (Tryd.prog.types.size + 1) 40 (gI1 x) = some ls' := by
    rw [hd]
    unfold Program.keyLits
    simp only [hu, hcell, hlen]
    rw [if_pos ⟨trivial, by simp⟩]
    have t1 : ((gI1 x).drop 0).take 1 = [.int .i64 x.1] := rfl
    have t2 : ((gI1 x).drop 1).take 32 = x.2.1.map BV := by
      show (gH x.2).take 32 = _
      rw [List.take_of_length_le (by rw [gH_len]; omega)]
    simp only [List.mapM_cons, List.mapM_nil, c3, c25, t1, t2, h0, hls]
    exact ⟨_, rfl⟩
  obtain ⟨ls', hls'⟩ := hl
  unfold keyOf
  simp only [hu, hkt, hf, Bool.and_self, if_true, Value.cells, hls', Option.map_some]
  exact ⟨_, rfl⟩

theorem sgKeyed : Maps.Keyed Tryd.prog 40 := by
  have hsz : Nat.ble 41 Tryd.prog.types.size = true := by kernel_rfl
  exact Maps.Keyed.of_law (deep_law_laid (by kernel_rfl) (m := 4) (by decide) (Nat.lt_of_lt_of_le (by decide) (Nat.le_of_ble_eq_true hsz)) (by kernel_rfl) (by rw [Tryd.underlying40]))

theorem sgEq {w : World} {e : Env} {x y : Operand} {t' ty : TypeId} (a b : SgI) (ha : (Lit.int .i64 a.1).wf = true) (hb : (Lit.int .i64 b.1).wf = true) (hx : e.val x = some (.agg (gI1 a).toArray)) (hy : e.val y = some (.agg (gI1 b).toArray)) :
    Ev Tryd.prog w e (.binOp .eql 40 x y t') ty (.bool (decide (a = b))) := .of fun ρ hρ _ _ _ _ => by
  obtain ⟨la, hla⟩ := sgKey a ha
  obtain ⟨lb, hlb⟩ := sgKey b hb
  obtain ⟨r, hr, hiff⟩ := run_equal_deep (P := Tryd.prog) w (m := 4) (by decide) (k := 40) (by kernel_rfl) (by rw [Tryd.underlying40]) hla hlb
  have hg : Tryd.prog.eqGuardType Tryd.prog.depth 40 = false := by kernel_rfl
  have e1 : r = decide (a = b) := by
    rw [Bool.eq_iff_iff, hiff, decide_eq_true_iff]
    constructor
    · rintro rfl
      have h1 := Array.toList_inj.2 (Value.agg.inj (sgKeyed.inj hla hlb))
      simp only [gI1, List.cons.injEq, Value.int.injEq, true_and] at h1
      refine Prod.ext h1.1 (Subtype.ext (bv_inj ?_))
      show Value.agg _ = Value.agg _
      rw [show (a.2.1.map BV) = (b.2.1.map BV) from h1.2]
    · rintro rfl
      rw [hla] at hlb
      exact Option.some.inj hlb
  subst e1
  simp [execOp, hρ _ _ hx, hρ _ _ hy, eqGuard, hg, binOp, hr]

theorem sgEqR {w : World} {e : Env} {x y : Operand} {t' ty : TypeId} {r : Bool} (a b : SgI) (ha : (Lit.int .i64 a.1).wf = true) (hb : (Lit.int .i64 b.1).wf = true) (hx : e.val x = some (.agg (gI1 a).toArray)) (hy : e.val y = some (.agg (gI1 b).toArray)) (hr : decide (a = b) = r) :
    Ev Tryd.prog w e (.binOp .eql 40 x y t') ty (.bool r) := by
  subst hr
  exact sgEq a b ha hb hx hy

theorem inZ_eq {z : Int} : inZ z = (decide (0 ≤ z) && decide (z < 16)) := by unfold inZ; rw [Bool.decide_and]

/-- An element of what came in: number and sum. -/
theorem sg_at {F G : List (Nat × Obj)} {a : Option Addr} {c i : Nat} {l : List SgI} (hvl : ElsA 33 (SgAtW F) (.slice a l.length c) l) (hG : ∀ p ∈ F, p ∈ G) (hi : i < l.length) :
    ∃ x b off, l[i]? = some x ∧ a = some ⟨b, off, none⟩ ∧ (Lit.int .i64 x.1).wf = true ∧ ∀ (j : Nat) v, (gI1 x)[j]? = some v → Rd G ⟨b, off + i * 33 + j, none⟩ v := by
  obtain ⟨x, hx⟩ := el_some hi
  obtain ⟨b, off, e, hr, hw⟩ := hvl.at hx
  exact ⟨x, b, off, hx, e, hw, fun j v hj => (hr j v hj).sub hG⟩

set_option maxHeartbeats 8000000 in
theorem stayslaw_spec [Strm] (l m : List SgI) (vl vm : Value) (w : World) (F : List (Nat × Obj)) (hvl : ElsA 33 (SgAtW F) vl l) (hvm : ElsA 33 (SgAtW F) vm m) (hE : ErrIn F) (H : SL w F) :
    Does Tryd.prog 5 #[vl, vm] w fun r w' => r = .bool true ∧ SL w' F := by
  obtain ⟨al, cl, rfl, hcl⟩ := hvl.len
  obtain ⟨am, cm, rfl, hcm⟩ := hvm.len
  obtain ⟨L, hL⟩ : ∃ L, L = laidL l 60 := ⟨_, rfl⟩
  obtain ⟨hS, hlen⟩ := laidL_signs l 60
  rw [← hL] at hS hlen
  refine Does.intro (args := [_, _]) (e := [(0, _), (1, _)]) Tryd.func5 rfl Tryd.ntmps5 rfl rfl ?_
  repeat (first | refine RunsE.seq ?_ | refine RunsE.skip ?_ | refine RunsE.block ?_ | refine RunsE.inBlock ?_ | refine RunsE.yes rfl ?_ | refine RunsE.no rfl ?_ | refine RunsE.exit rfl ?_)
  repeat (first | refine RunsE.seq ?_ | refine RunsE.skip ?_ | refine RunsE.block ?_ | refine RunsE.inBlock ?_ | refine RunsE.yes rfl ?_ | refine RunsE.no rfl ?_ | refine RunsE.exit rfl ?_)
  refine RunsE.region ?_
  refine OpsE.ev (Ev.assign rfl) rfl ?_
  refine OpsE.nil ?_
  repeat (first | refine RunsE.seq ?_ | refine RunsE.skip ?_ | refine RunsE.block ?_ | refine RunsE.inBlock ?_ | refine RunsE.yes rfl ?_ | refine RunsE.no rfl ?_ | refine RunsE.exit rfl ?_)
  refine RunsE.region ?_
  refine OpsE.ev (Ev.move rfl) rfl ?_
  refine OpsE.ex (Ex.call rfl Tryd.call7 (laid_spec l _ w _ (hvl.sub fun _ _ _ h => h.1) hE H)) rfl ?_; (try clear H); rintro _ w ⟨b, v, rfl, HP⟩; obtain ⟨B, D, hB, hR, H⟩ := HP.ex; rw [← hL] at hB
  refine OpsE.ev (Ev.move rfl) rfl ?_
  refine OpsE.ev (Ev.extract rfl rfl) rfl ?_
  refine OpsE.ev (Ev.extract rfl rfl) rfl ?_
  refine OpsE.ev (Ev.extract rfl rfl) rfl ?_
  refine OpsE.ev (Ev.assign rfl) rfl ?_
  refine OpsE.ev (Ev.assign rfl) rfl ?_
  refine OpsE.ev (Ev.assign rfl) rfl ?_
  refine OpsE.nil ?_
  clear HP hR
  repeat (first | refine RunsE.seq ?_ | refine RunsE.skip ?_ | refine RunsE.block ?_ | refine RunsE.inBlock ?_ | refine RunsE.yes rfl ?_ | refine RunsE.no rfl ?_ | refine RunsE.exit rfl ?_)
  refine RunsE.region ?_
  refine OpsE.ev (Ev.move rfl) rfl ?_
  refine OpsE.ev (Ev.not rfl) rfl ?_
  refine OpsE.nil ?_
  repeat (first | refine RunsE.seq ?_ | refine RunsE.skip ?_ | refine RunsE.block ?_ | refine RunsE.inBlock ?_ | refine RunsE.yes rfl ?_ | refine RunsE.no rfl ?_ | refine RunsE.exit rfl ?_)
  repeat (first | refine RunsE.seq ?_ | refine RunsE.skip ?_ | refine RunsE.block ?_ | refine RunsE.inBlock ?_ | refine RunsE.yes rfl ?_ | refine RunsE.no rfl ?_ | refine RunsE.exit rfl ?_)
  refine RunsE.region ?_
  refine OpsE.ev (Ev.move rfl) rfl ?_
  refine OpsE.ex (Ex.call rfl Tryd.call16 (clone_spec b L (by omega) B w _ hB H)) rfl ?_; (try clear H); rintro _ w ⟨c, A, rfl, hA, H⟩
  refine OpsE.ev (Ev.assign rfl) rfl ?_
  refine OpsE.nil ?_
  repeat (first | refine RunsE.seq ?_ | refine RunsE.skip ?_ | refine RunsE.block ?_ | refine RunsE.inBlock ?_ | refine RunsE.yes rfl ?_ | refine RunsE.no rfl ?_ | refine RunsE.exit rfl ?_)
  refine RunsE.region ?_
  refine OpsE.ev (Ev.move rfl) rfl ?_
  refine OpsE.ev (Ev.ptrNilEq (el := 58) rfl rfl (by kernel_rfl)) rfl ?_
  refine OpsE.ev (Ev.move rfl) rfl ?_
  first | (refine OpsE.yes rfl rfl ?_; refine OpsE.ev (Ev.move rfl) rfl ?_) | refine OpsE.no rfl rfl rfl ?_ | refine OpsE.off rfl rfl rfl ?_
  first | (refine OpsE.yes rfl rfl ?_; refine OpsE.ex (Ex.call rfl Tryd.call15 (len_spec c L hS (by omega) A w _ hA H)) rfl ?_; (try clear H); rintro _ w ⟨rfl, H⟩) | refine OpsE.no rfl rfl rfl ?_ | refine OpsE.off rfl rfl rfl ?_
  first | (refine OpsE.yes rfl rfl ?_; refine OpsE.ev (Ev.move rfl) rfl ?_) | refine OpsE.no rfl rfl rfl ?_ | refine OpsE.off rfl rfl rfl ?_
  first | (refine OpsE.yes rfl rfl ?_; refine OpsE.ex (Ex.call rfl Tryd.call15 (len_spec b L hS (by omega) B w _ hB H.swapL)) rfl ?_; (try clear H); rintro _ w ⟨rfl, H⟩) | refine OpsE.no rfl rfl rfl ?_ | refine OpsE.off rfl rfl rfl ?_
  first | (refine OpsE.yes rfl rfl ?_; refine OpsE.ev (Ev.neq (r := false) rfl rfl (bne_eq_false_iff_eq.2 rfl)) rfl ?_) | refine OpsE.no rfl rfl rfl ?_ | refine OpsE.off rfl rfl rfl ?_
  refine OpsE.ev ((by first | exact Ev.pickT rfl rfl | exact Ev.pickF rfl rfl)) rfl ?_
  refine OpsE.nil ?_
  repeat (first | refine RunsE.seq ?_ | refine RunsE.skip ?_ | refine RunsE.block ?_ | refine RunsE.inBlock ?_ | refine RunsE.yes rfl ?_ | refine RunsE.no rfl ?_ | refine RunsE.exit rfl ?_)
  repeat (first | refine RunsE.seq ?_ | refine RunsE.skip ?_ | refine RunsE.block ?_ | refine RunsE.inBlock ?_ | refine RunsE.yes rfl ?_ | refine RunsE.no rfl ?_ | refine RunsE.exit rfl ?_)
  refine RunsE.region ?_
  refine OpsE.ev (Ev.move rfl) rfl ?_
  refine OpsE.ex (Ex.call rfl Tryd.call15 (len_spec b L hS (by omega) B w _ hB H)) rfl ?_; (try clear H); rintro _ w ⟨rfl, H⟩
  refine OpsE.ev (Ev.assign rfl) rfl ?_
  refine OpsE.nil ?_
  repeat (first | refine RunsE.seq ?_ | refine RunsE.skip ?_ | refine RunsE.block ?_ | refine RunsE.inBlock ?_ | refine RunsE.yes rfl ?_ | refine RunsE.no rfl ?_ | refine RunsE.exit rfl ?_)
  refine RunsE.region ?_
  refine OpsE.ev (Ev.assign rfl) rfl ?_
  refine OpsE.nil ?_
  have HP : Two (D ++ F) c b L L w := .of ⟨A, B, hA, hB, H.swapL⟩
  clear H hA hB A B
  have hF : ∀ {A B : List (Nat × Obj)}, ∀ p ∈ F, p ∈ A ++ (B ++ (D ++ F)) := fun p hp => List.mem_append_right _ (List.mem_append_right _ (List.mem_append_right _ hp))
  repeat refine RunsE.seq ?_
  refine RunsE.join (fun _ : Unit => [(0, .slice al l.length cl), (1, .slice am m.length cm), (5, .pointer (some ⟨b, 0, none⟩)), (8, .pointer (some ⟨c, 0, none⟩)), (9, .int .i64 (L.length : Int))])
    (fun _ w => ∃ n, Two (D ++ F) c b (laidFrom L m n) L w) (fun next => ?_) ?_
  · refine RunsE.block ?_
    refine RunsE.loop (fun i : Nat => [(0, .slice al l.length cl), (1, .slice am m.length cm), (5, .pointer (some ⟨b, 0, none⟩)), (8, .pointer (some ⟨c, 0, none⟩)), (9, .int .i64 (L.length : Int)), (10, .int .i64 (i : Int))])
      (fun i w => i ≤ 40 ∧ Two (D ++ F) c b (laidFrom L m i) L w) (fun i => 40 - i) 0 ⟨rfl, rfl, rfl, rfl, rfl, rfl, trivial⟩ ⟨by omega, HP⟩ ?_
    clear HP
    rintro i w ⟨hi, HP⟩ nextL
    by_cases h1 : m.length ≤ i
    ·
      repeat (first | refine RunsE.seq ?_ | refine RunsE.skip ?_ | refine RunsE.block ?_ | refine RunsE.inBlock ?_ | refine RunsE.yes rfl ?_ | refine RunsE.no rfl ?_ | refine RunsE.exit rfl ?_)
      refine RunsE.region ?_
      refine OpsE.ev (Ev.move rfl) rfl ?_
      refine OpsE.ev (Ev.move rfl) rfl ?_
      refine OpsE.ev (Ev.lenSl (d := 40) rfl rfl (by kernel_rfl)) rfl ?_
      refine OpsE.ev (Ev.lss (r := false) rfl rfl (decide_eq_false (by omega))) rfl ?_
      refine OpsE.ev (Ev.move rfl) rfl ?_
      first | (refine OpsE.yes rfl rfl ?_; refine OpsE.ev (Ev.move rfl) rfl ?_) | refine OpsE.no rfl rfl rfl ?_ | refine OpsE.off rfl rfl rfl ?_
      first | (refine OpsE.yes rfl rfl ?_; refine OpsE.ev (Ev.lss rfl rfl) rfl ?_) | refine OpsE.no rfl rfl rfl ?_ | refine OpsE.off rfl rfl rfl ?_
      refine OpsE.ev ((by first | exact Ev.pickT rfl rfl | exact Ev.pickF rfl rfl)) rfl ?_
      refine OpsE.nil ?_
      repeat refine RunsE.seq ?_
      refine RunsE.no rfl ?_
      refine RunsE.exit rfl ?_
      exact next () _ _ ⟨i, HP⟩ ⟨rfl, rfl, rfl, rfl, rfl, trivial⟩
    by_cases h2 : i = 40
    ·
      repeat (first | refine RunsE.seq ?_ | refine RunsE.skip ?_ | refine RunsE.block ?_ | refine RunsE.inBlock ?_ | refine RunsE.yes rfl ?_ | refine RunsE.no rfl ?_ | refine RunsE.exit rfl ?_)
      refine RunsE.region ?_
      refine OpsE.ev (Ev.move rfl) rfl ?_
      refine OpsE.ev (Ev.move rfl) rfl ?_
      refine OpsE.ev (Ev.lenSl (d := 40) rfl rfl (by kernel_rfl)) rfl ?_
      refine OpsE.ev (Ev.lss (r := true) rfl rfl (decide_eq_true (by omega))) rfl ?_
      refine OpsE.ev (Ev.move rfl) rfl ?_
      first | (refine OpsE.yes rfl rfl ?_; refine OpsE.ev (Ev.move rfl) rfl ?_) | refine OpsE.no rfl rfl rfl ?_ | refine OpsE.off rfl rfl rfl ?_
      first | (refine OpsE.yes rfl rfl ?_; refine OpsE.ev (Ev.lss (r := false) rfl rfl (decide_eq_false (by omega))) rfl ?_) | refine OpsE.no rfl rfl rfl ?_ | refine OpsE.off rfl rfl rfl ?_
      refine OpsE.ev ((by first | exact Ev.pickT rfl rfl | exact Ev.pickF rfl rfl)) rfl ?_
      refine OpsE.nil ?_
      repeat refine RunsE.seq ?_
      refine RunsE.no rfl ?_
      refine RunsE.exit rfl ?_
      exact next () _ _ ⟨i, HP⟩ ⟨rfl, rfl, rfl, rfl, rfl, trivial⟩
    clear next
    obtain ⟨A, B, hA, hB, H⟩ := HP.ex
    clear HP
    obtain ⟨hS2, hlen2⟩ := fold_signs (m.take i) L hS
    rw [List.length_take] at hlen2
    obtain ⟨x, bm, om, hx, rfl, hw, hrd⟩ := sg_at hvm (hF (A := A) (B := B)) (i := i) (by omega)
    have hsucc := laidFrom_succ (L := L) hx
    obtain ⟨z, h⟩ := x
    simp only at hrd hsucc
    repeat (first | refine RunsE.seq ?_ | refine RunsE.skip ?_ | refine RunsE.block ?_ | refine RunsE.inBlock ?_ | refine RunsE.yes rfl ?_ | refine RunsE.no rfl ?_ | refine RunsE.exit rfl ?_)
    refine RunsE.region ?_
    refine OpsE.ev (Ev.move rfl) rfl ?_
    refine OpsE.ev (Ev.move rfl) rfl ?_
    refine OpsE.ev (Ev.lenSl (d := 40) rfl rfl (by kernel_rfl)) rfl ?_
    refine OpsE.ev (Ev.lss (r := true) rfl rfl (decide_eq_true (by omega))) rfl ?_
    refine OpsE.ev (Ev.move rfl) rfl ?_
    first | (refine OpsE.yes rfl rfl ?_; refine OpsE.ev (Ev.move rfl) rfl ?_) | refine OpsE.no rfl rfl rfl ?_ | refine OpsE.off rfl rfl rfl ?_
    first | (refine OpsE.yes rfl rfl ?_; refine OpsE.ev (Ev.lss (r := true) rfl rfl (decide_eq_true (by omega))) rfl ?_) | refine OpsE.no rfl rfl rfl ?_ | refine OpsE.off rfl rfl rfl ?_
    refine OpsE.ev ((by first | exact Ev.pickT rfl rfl | exact Ev.pickF rfl rfl)) rfl ?_
    refine OpsE.nil ?_
    repeat (first | refine RunsE.seq ?_ | refine RunsE.skip ?_ | refine RunsE.block ?_ | refine RunsE.inBlock ?_ | refine RunsE.yes rfl ?_ | refine RunsE.no rfl ?_ | refine RunsE.exit rfl ?_)
    repeat (first | refine RunsE.seq ?_ | refine RunsE.skip ?_ | refine RunsE.block ?_ | refine RunsE.inBlock ?_ | refine RunsE.yes rfl ?_ | refine RunsE.no rfl ?_ | refine RunsE.exit rfl ?_)
    refine RunsE.drawS H [11] (by kernel_rfl) ?_; (try clear H); intro w H
    refine OpsD.take 0 rfl (by kernel_rfl) (by first | exact H | exact H.drop | exact H.drop.drop | exact H.dropL | exact H.drop.dropL | exact H.dropL.drop | exact H.dropL.dropL | exact H.dropMid) (fun w H => Ev.move rfl) rfl ?_
    refine OpsD.take 1 rfl (by kernel_rfl) (by first | exact H | exact H.drop | exact H.drop.drop | exact H.dropL | exact H.drop.dropL | exact H.dropL.drop | exact H.dropL.dropL | exact H.dropMid) (fun w H => Ev.move rfl) rfl ?_
    refine OpsD.take 2 rfl (by kernel_rfl) (by first | exact H | exact H.drop | exact H.drop.drop | exact H.dropL | exact H.drop.dropL | exact H.dropL.drop | exact H.dropL.dropL | exact H.dropMid) (fun w H => Ev.move rfl) rfl ?_
    refine OpsD.take 3 rfl (by kernel_rfl) (by first | exact H | exact H.drop | exact H.drop.drop | exact H.dropL | exact H.drop.dropL | exact H.dropL.drop | exact H.dropL.dropL | exact H.dropMid) (fun w H => Ev.iaSl (n := 40) (sz := 33) (m := i) (o := om + i * 33) rfl rfl rfl (by kernel_rfl) (by omega)) rfl ?_
    refine OpsD.take 4 rfl (by kernel_rfl) (by first | exact H | exact H.drop | exact H.drop.drop | exact H.dropL | exact H.drop.dropL | exact H.dropL.drop | exact H.dropL.dropL | exact H.dropMid) (fun w H => Ev.fieldAddr (o := 0) rfl (by kernel_rfl)) rfl ?_
    refine OpsD.take 5 rfl (by kernel_rfl) (by first | exact H | exact H.drop | exact H.drop.drop | exact H.dropL | exact H.drop.dropL | exact H.dropL.drop | exact H.dropL.dropL | exact H.dropMid) (fun w H => Ev.load (v := .int .i64 z) H rfl (by kernel_rfl) (hrd 0 _ rfl)) rfl ?_
    refine OpsD.take 6 rfl (by kernel_rfl) (by first | exact H | exact H.drop | exact H.drop.drop | exact H.dropL | exact H.drop.dropL | exact H.dropL.drop | exact H.dropL.dropL | exact H.dropMid) (fun w H => Ev.move rfl) rfl ?_
    refine OpsD.take 7 rfl (by kernel_rfl) (by first | exact H | exact H.drop | exact H.drop.drop | exact H.dropL | exact H.drop.dropL | exact H.dropL.drop | exact H.dropL.dropL | exact H.dropMid) (fun w H => Ev.move rfl) rfl ?_
    refine OpsD.take 8 rfl (by kernel_rfl) (by first | exact H | exact H.drop | exact H.drop.drop | exact H.dropL | exact H.drop.dropL | exact H.dropL.drop | exact H.dropL.dropL | exact H.dropMid) (fun w H => Ev.iaSl (n := 40) (sz := 33) (m := i) (o := om + i * 33) rfl rfl rfl (by kernel_rfl) (by omega)) rfl ?_
    refine OpsD.take 9 rfl (by kernel_rfl) (by first | exact H | exact H.drop | exact H.drop.drop | exact H.dropL | exact H.drop.dropL | exact H.dropL.drop | exact H.dropL.dropL | exact H.dropMid) (fun w H => Ev.fieldAddr (o := 1) rfl (by kernel_rfl)) rfl ?_
    refine OpsD.take 10 rfl (by kernel_rfl) (by first | exact H | exact H.drop | exact H.drop.drop | exact H.dropL | exact H.drop.dropL | exact H.dropL.drop | exact H.dropL.dropL | exact H.dropMid) (fun w H => Ev.loadAgg (vs := gH h) H rfl (by rw [gH_len]; kernel_rfl) (fun j v hj => by rw [add_none, Nat.add_assoc, Nat.add_comm 1 j]; exact hrd (j + 1) v (by simpa using hj))) rfl ?_
    refine OpsD.one 11 (by kernel_rfl) (StepD.exT rfl rfl (Ex.call rfl Tryd.call12 (sign_spec c (laidFrom L m i) hS2 (by unfold laidFrom; omega) z h A w _ hA H)) rfl ?_); (try clear H); rintro _ w ⟨A, rfl, hA, H⟩
    refine OpsD.done (by kernel_rfl) ?_
    repeat (first | refine RunsE.seq ?_ | refine RunsE.skip ?_ | refine RunsE.block ?_ | refine RunsE.inBlock ?_ | refine RunsE.yes rfl ?_ | refine RunsE.no rfl ?_ | refine RunsE.exit rfl ?_)
    refine RunsE.region ?_
    refine OpsE.ev (Ev.move rfl) rfl ?_
    refine OpsE.ev (Ev.add rfl rfl) rfl ?_
    refine OpsE.ev (Ev.assign rfl) rfl ?_
    refine OpsE.nil ?_
    exact nextL (i + 1) _ _ (by omega) ⟨by omega, .of ⟨A, B, by rw [hsucc]; exact hA, hB, H⟩⟩ ⟨rfl, rfl, rfl, rfl, rfl, rfl, trivial⟩
  clear HP
  rintro _ w ⟨n, HP⟩
  obtain ⟨A, B, hA, hB, H⟩ := HP.ex
  clear HP
  obtain ⟨M, hM⟩ : ∃ M, M = laidFrom L m n := ⟨_, rfl⟩
  have hSM : Signs M := by rw [hM]; exact (fold_signs (m.take n) L hS).1
  rw [← hM] at hA
  repeat (first | refine RunsE.seq ?_ | refine RunsE.skip ?_ | refine RunsE.block ?_ | refine RunsE.inBlock ?_ | refine RunsE.yes rfl ?_ | refine RunsE.no rfl ?_ | refine RunsE.exit rfl ?_)
  refine RunsE.region ?_
  refine OpsE.ev (Ev.assign rfl) rfl ?_
  refine OpsE.nil ?_
  repeat refine RunsE.seq ?_
  refine RunsE.join (fun _ : Unit => [(0, .slice al l.length cl), (1, .slice am m.length cm), (5, .pointer (some ⟨b, 0, none⟩)), (9, .int .i64 (L.length : Int))])
    (fun _ w => SL w (A ++ (B ++ (D ++ F)))) (fun next => ?_) ?_
  · refine RunsE.block ?_
    refine RunsE.loop (fun i : Nat => [(0, .slice al l.length cl), (1, .slice am m.length cm), (5, .pointer (some ⟨b, 0, none⟩)), (8, .pointer (some ⟨c, 0, none⟩)), (9, .int .i64 (L.length : Int)), (11, .int .i64 (i : Int))])
      (fun i w => i ≤ 60 ∧ SL w (A ++ (B ++ (D ++ F)))) (fun i => 60 - i) 0 ⟨rfl, rfl, rfl, rfl, rfl, rfl, trivial⟩ ⟨by omega, H⟩ ?_
    clear H
    rintro i w ⟨hi, H⟩ nextL
    by_cases h1 : l.length ≤ i
    ·
      repeat (first | refine RunsE.seq ?_ | refine RunsE.skip ?_ | refine RunsE.block ?_ | refine RunsE.inBlock ?_ | refine RunsE.yes rfl ?_ | refine RunsE.no rfl ?_ | refine RunsE.exit rfl ?_)
      refine RunsE.region ?_
      refine OpsE.ev (Ev.move rfl) rfl ?_
      refine OpsE.ev (Ev.move rfl) rfl ?_
      refine OpsE.ev (Ev.lenSl (d := 40) rfl rfl (by kernel_rfl)) rfl ?_
      refine OpsE.ev (Ev.lss (r := false) rfl rfl (decide_eq_false (by omega))) rfl ?_
      refine OpsE.ev (Ev.move rfl) rfl ?_
      first | (refine OpsE.yes rfl rfl ?_; refine OpsE.ev (Ev.move rfl) rfl ?_) | refine OpsE.no rfl rfl rfl ?_ | refine OpsE.off rfl rfl rfl ?_
      first | (refine OpsE.yes rfl rfl ?_; refine OpsE.ev (Ev.lss rfl rfl) rfl ?_) | refine OpsE.no rfl rfl rfl ?_ | refine OpsE.off rfl rfl rfl ?_
      refine OpsE.ev ((by first | exact Ev.pickT rfl rfl | exact Ev.pickF rfl rfl)) rfl ?_
      refine OpsE.nil ?_
      repeat refine RunsE.seq ?_
      refine RunsE.no rfl ?_
      refine RunsE.exit rfl ?_
      exact next () _ _ H ⟨rfl, rfl, rfl, rfl, trivial⟩
    by_cases h2 : i = 60
    ·
      repeat (first | refine RunsE.seq ?_ | refine RunsE.skip ?_ | refine RunsE.block ?_ | refine RunsE.inBlock ?_ | refine RunsE.yes rfl ?_ | refine RunsE.no rfl ?_ | refine RunsE.exit rfl ?_)
      refine RunsE.region ?_
      refine OpsE.ev (Ev.move rfl) rfl ?_
      refine OpsE.ev (Ev.move rfl) rfl ?_
      refine OpsE.ev (Ev.lenSl (d := 40) rfl rfl (by kernel_rfl)) rfl ?_
      refine OpsE.ev (Ev.lss (r := true) rfl rfl (decide_eq_true (by omega))) rfl ?_
      refine OpsE.ev (Ev.move rfl) rfl ?_
      first | (refine OpsE.yes rfl rfl ?_; refine OpsE.ev (Ev.move rfl) rfl ?_) | refine OpsE.no rfl rfl rfl ?_ | refine OpsE.off rfl rfl rfl ?_
      first | (refine OpsE.yes rfl rfl ?_; refine OpsE.ev (Ev.lss (r := false) rfl rfl (decide_eq_false (by omega))) rfl ?_) | refine OpsE.no rfl rfl rfl ?_ | refine OpsE.off rfl rfl rfl ?_
      refine OpsE.ev ((by first | exact Ev.pickT rfl rfl | exact Ev.pickF rfl rfl)) rfl ?_
      refine OpsE.nil ?_
      repeat refine RunsE.seq ?_
      refine RunsE.no rfl ?_
      refine RunsE.exit rfl ?_
      exact next () _ _ H ⟨rfl, rfl, rfl, rfl, trivial⟩
    clear next
    obtain ⟨x, bl, ol, hx, rfl, hw, hrd⟩ := sg_at hvl (hF (A := A) (B := B)) (i := i) (by omega)
    obtain ⟨z, h⟩ := x
    try simp only at hrd
    have hin : hasZ L z h = inZ z := by rw [hL]; exact laidL_in hx (by omega)
    have hin2 : hasZ M z h = inZ z := by rw [hM]; exact laidFrom_in hin
    repeat (first | refine RunsE.seq ?_ | refine RunsE.skip ?_ | refine RunsE.block ?_ | refine RunsE.inBlock ?_ | refine RunsE.yes rfl ?_ | refine RunsE.no rfl ?_ | refine RunsE.exit rfl ?_)
    refine RunsE.region ?_
    refine OpsE.ev (Ev.move rfl) rfl ?_
    refine OpsE.ev (Ev.move rfl) rfl ?_
    refine OpsE.ev (Ev.lenSl (d := 40) rfl rfl (by kernel_rfl)) rfl ?_
    refine OpsE.ev (Ev.lss (r := true) rfl rfl (decide_eq_true (by omega))) rfl ?_
    refine OpsE.ev (Ev.move rfl) rfl ?_
    first | (refine OpsE.yes rfl rfl ?_; refine OpsE.ev (Ev.move rfl) rfl ?_) | refine OpsE.no rfl rfl rfl ?_ | refine OpsE.off rfl rfl rfl ?_
    first | (refine OpsE.yes rfl rfl ?_; refine OpsE.ev (Ev.lss (r := true) rfl rfl (decide_eq_true (by omega))) rfl ?_) | refine OpsE.no rfl rfl rfl ?_ | refine OpsE.off rfl rfl rfl ?_
    refine OpsE.ev ((by first | exact Ev.pickT rfl rfl | exact Ev.pickF rfl rfl)) rfl ?_
    refine OpsE.nil ?_
    repeat (first | refine RunsE.seq ?_ | refine RunsE.skip ?_ | refine RunsE.block ?_ | refine RunsE.inBlock ?_ | refine RunsE.yes rfl ?_ | refine RunsE.no rfl ?_ | refine RunsE.exit rfl ?_)
    refine (RunsE.join (fun _ : Unit => [(0, .slice (some ⟨bl, ol, none⟩) l.length cl), (1, .slice am m.length cm), (5, .pointer (some ⟨b, 0, none⟩)), (8, .pointer (some ⟨c, 0, none⟩)), (9, .int .i64 (L.length : Int)), (11, .int .i64 (i : Int)), (12, .bool (inZ z))])
      (fun _ w => SL w (A ++ (B ++ (D ++ F)))) (fun next => ?_) ?_)
    · by_cases hz0 : 0 ≤ z
      ·
        repeat (first | refine RunsE.seq ?_ | refine RunsE.skip ?_ | refine RunsE.block ?_ | refine RunsE.inBlock ?_ | refine RunsE.yes rfl ?_ | refine RunsE.no rfl ?_ | refine RunsE.exit rfl ?_)
        refine RunsE.region ?_
        refine OpsE.ev (Ev.move rfl) rfl ?_
        refine OpsE.ev (Ev.move rfl) rfl ?_
        refine OpsE.ev (Ev.iaSl (n := 40) (sz := 33) (m := i) (o := ol + i * 33) rfl rfl rfl (by kernel_rfl) (by omega)) rfl ?_
        refine OpsE.ev (Ev.fieldAddr (o := 0) rfl (by kernel_rfl)) rfl ?_
        refine OpsE.ev (Ev.load (v := .int .i64 z) H rfl (by kernel_rfl) (hrd 0 _ rfl)) rfl ?_
        refine OpsE.ev (Ev.geq (r := true) rfl rfl (decide_eq_true (by omega))) rfl ?_
        refine OpsE.ev (Ev.move rfl) rfl ?_
        first | (refine OpsE.yes rfl rfl ?_; refine OpsE.ev (Ev.move rfl) rfl ?_) | refine OpsE.no rfl rfl rfl ?_ | refine OpsE.off rfl rfl rfl ?_
        first | (refine OpsE.yes rfl rfl ?_; refine OpsE.ev (Ev.move rfl) rfl ?_) | refine OpsE.no rfl rfl rfl ?_ | refine OpsE.off rfl rfl rfl ?_
        first | (refine OpsE.yes rfl rfl ?_; refine OpsE.ev (Ev.iaSl (n := 40) (sz := 33) (m := i) (o := ol + i * 33) rfl rfl rfl (by kernel_rfl) (by omega)) rfl ?_) | refine OpsE.no rfl rfl rfl ?_ | refine OpsE.off rfl rfl rfl ?_
        first | (refine OpsE.yes rfl rfl ?_; refine OpsE.ev (Ev.fieldAddr (o := 0) rfl (by kernel_rfl)) rfl ?_) | refine OpsE.no rfl rfl rfl ?_ | refine OpsE.off rfl rfl rfl ?_
        first | (refine OpsE.yes rfl rfl ?_; refine OpsE.ev (Ev.load (v := .int .i64 z) H rfl (by kernel_rfl) (hrd 0 _ rfl)) rfl ?_) | refine OpsE.no rfl rfl rfl ?_ | refine OpsE.off rfl rfl rfl ?_
        first | (refine OpsE.yes rfl rfl ?_; refine OpsE.ev (Ev.lss (r := inZ z) rfl rfl (by rw [inZ_eq, decide_eq_true hz0, Bool.true_and])) rfl ?_) | refine OpsE.no rfl rfl rfl ?_ | refine OpsE.off rfl rfl rfl ?_
        refine OpsE.ev ((by first | exact Ev.pickT rfl rfl | exact Ev.pickF rfl rfl)) rfl ?_
        refine OpsE.ev (Ev.assign rfl) rfl ?_
        refine OpsE.nil ?_
        exact next () _ _ H ⟨rfl, rfl, rfl, rfl, rfl, rfl, rfl, trivial⟩
      · have e1 : inZ z = false := by rw [inZ_eq, decide_eq_false hz0, Bool.false_and]
        repeat (first | refine RunsE.seq ?_ | refine RunsE.skip ?_ | refine RunsE.block ?_ | refine RunsE.inBlock ?_ | refine RunsE.yes rfl ?_ | refine RunsE.no rfl ?_ | refine RunsE.exit rfl ?_)
        refine RunsE.region ?_
        refine OpsE.ev (Ev.move rfl) rfl ?_
        refine OpsE.ev (Ev.move rfl) rfl ?_
        refine OpsE.ev (Ev.iaSl (n := 40) (sz := 33) (m := i) (o := ol + i * 33) rfl rfl rfl (by kernel_rfl) (by omega)) rfl ?_
        refine OpsE.ev (Ev.fieldAddr (o := 0) rfl (by kernel_rfl)) rfl ?_
        refine OpsE.ev (Ev.load (v := .int .i64 z) H rfl (by kernel_rfl) (hrd 0 _ rfl)) rfl ?_
        refine OpsE.ev (Ev.geq (r := false) rfl rfl (decide_eq_false (by omega))) rfl ?_
        refine OpsE.ev (Ev.move rfl) rfl ?_
        first | (refine OpsE.yes rfl rfl ?_; refine OpsE.ev (Ev.move rfl) rfl ?_) | refine OpsE.no rfl rfl rfl ?_ | refine OpsE.off rfl rfl rfl ?_
        first | (refine OpsE.yes rfl rfl ?_; refine OpsE.ev (Ev.move rfl) rfl ?_) | refine OpsE.no rfl rfl rfl ?_ | refine OpsE.off rfl rfl rfl ?_
        first | (refine OpsE.yes rfl rfl ?_; refine OpsE.ev (Ev.iaSl (n := 40) (sz := 33) rfl rfl rfl (by kernel_rfl) (by omega)) rfl ?_) | refine OpsE.no rfl rfl rfl ?_ | refine OpsE.off rfl rfl rfl ?_
        first | (refine OpsE.yes rfl rfl ?_; refine OpsE.ev (Ev.fieldAddr (o := 0) rfl (by kernel_rfl)) rfl ?_) | refine OpsE.no rfl rfl rfl ?_ | refine OpsE.off rfl rfl rfl ?_
        first | (refine OpsE.yes rfl rfl ?_; refine OpsE.ev (Ev.load H rfl (by kernel_rfl) (by first | exact Rd.mk m0 rfl | exact Rd.mk m1 rfl | exact Rd.mk m2 rfl | exact Rd.mk m3 rfl | assumption)) rfl ?_) | refine OpsE.no rfl rfl rfl ?_ | refine OpsE.off rfl rfl rfl ?_
        first | (refine OpsE.yes rfl rfl ?_; refine OpsE.ev (Ev.lss rfl rfl) rfl ?_) | refine OpsE.no rfl rfl rfl ?_ | refine OpsE.off rfl rfl rfl ?_
        refine OpsE.ev ((by first | exact Ev.pickT rfl rfl | exact Ev.pickF rfl rfl)) rfl ?_
        refine OpsE.ev (Ev.assign rfl) rfl ?_
        refine OpsE.nil ?_
        exact next () _ _ H ⟨rfl, rfl, rfl, rfl, rfl, rfl, congrArg (fun r => some (Value.bool r)) e1.symm, trivial⟩
    clear H
    rintro _ w H
    repeat (first | refine RunsE.seq ?_ | refine RunsE.skip ?_ | refine RunsE.block ?_ | refine RunsE.inBlock ?_ | refine RunsE.yes rfl ?_ | refine RunsE.no rfl ?_ | refine RunsE.exit rfl ?_)
    refine RunsE.drawS H [] (by kernel_rfl) ?_; (try clear H); intro w H
    refine OpsD.take 0 rfl (by kernel_rfl) (by first | exact H | exact H.drop | exact H.drop.drop | exact H.dropL | exact H.drop.dropL | exact H.dropL.drop | exact H.dropL.dropL | exact H.dropMid) (fun w H => Ev.move rfl) rfl ?_
    refine OpsD.take 1 rfl (by kernel_rfl) (by first | exact H | exact H.drop | exact H.drop.drop | exact H.dropL | exact H.drop.dropL | exact H.dropL.drop | exact H.dropL.dropL | exact H.dropMid) (fun w H => Ev.move rfl) rfl ?_
    refine OpsD.take 2 rfl (by kernel_rfl) (by first | exact H | exact H.drop | exact H.drop.drop | exact H.dropL | exact H.drop.dropL | exact H.dropL.drop | exact H.dropL.dropL | exact H.dropMid) (fun w H => Ev.move rfl) rfl ?_
    refine OpsD.take 3 rfl (by kernel_rfl) (by first | exact H | exact H.drop | exact H.drop.drop | exact H.dropL | exact H.drop.dropL | exact H.dropL.drop | exact H.dropL.dropL | exact H.dropMid) (fun w H => Ev.iaSl (n := 40) (sz := 33) (m := i) (o := ol + i * 33) rfl rfl rfl (by kernel_rfl) (by omega)) rfl ?_
    refine OpsD.take 4 rfl (by kernel_rfl) (by first | exact H | exact H.drop | exact H.drop.drop | exact H.dropL | exact H.drop.dropL | exact H.dropL.drop | exact H.dropL.dropL | exact H.dropMid) (fun w H => Ev.fieldAddr (o := 0) rfl (by kernel_rfl)) rfl ?_
    refine OpsD.take 5 rfl (by kernel_rfl) (by first | exact H | exact H.drop | exact H.drop.drop | exact H.dropL | exact H.drop.dropL | exact H.dropL.drop | exact H.dropL.dropL | exact H.dropMid) (fun w H => Ev.load (v := .int .i64 z) H rfl (by kernel_rfl) (hrd 0 _ rfl)) rfl ?_
    refine OpsD.take 6 rfl (by kernel_rfl) (by first | exact H | exact H.drop | exact H.drop.drop | exact H.dropL | exact H.drop.dropL | exact H.dropL.drop | exact H.dropL.dropL | exact H.dropMid) (fun w H => Ev.move rfl) rfl ?_
    refine OpsD.take 7 rfl (by kernel_rfl) (by first | exact H | exact H.drop | exact H.drop.drop | exact H.dropL | exact H.drop.dropL | exact H.dropL.drop | exact H.dropL.dropL | exact H.dropMid) (fun w H => Ev.move rfl) rfl ?_
    refine OpsD.take 8 rfl (by kernel_rfl) (by first | exact H | exact H.drop | exact H.drop.drop | exact H.dropL | exact H.drop.dropL | exact H.dropL.drop | exact H.dropL.dropL | exact H.dropMid) (fun w H => Ev.iaSl (n := 40) (sz := 33) (m := i) (o := ol + i * 33) rfl rfl rfl (by kernel_rfl) (by omega)) rfl ?_
    refine OpsD.take 9 rfl (by kernel_rfl) (by first | exact H | exact H.drop | exact H.drop.drop | exact H.dropL | exact H.drop.dropL | exact H.dropL.drop | exact H.dropL.dropL | exact H.dropMid) (fun w H => Ev.fieldAddr (o := 1) rfl (by kernel_rfl)) rfl ?_
    refine OpsD.take 10 rfl (by kernel_rfl) (by first | exact H | exact H.drop | exact H.drop.drop | exact H.dropL | exact H.drop.dropL | exact H.dropL.drop | exact H.dropL.dropL | exact H.dropMid) (fun w H => Ev.loadAgg (vs := gH h) H rfl (by rw [gH_len]; kernel_rfl) (fun j v hj => by rw [add_none, Nat.add_assoc, Nat.add_comm 1 j]; exact hrd (j + 1) v (by simpa using hj))) rfl ?_
    refine OpsD.take 12 rfl (by kernel_rfl) (by first | exact H | exact H.drop | exact H.drop.drop | exact H.dropL | exact H.drop.dropL | exact H.dropL.drop | exact H.dropL.dropL | exact H.dropMid) (fun w H => Ev.move rfl) rfl ?_
    refine OpsD.one 11 (by kernel_rfl) (StepD.ex rfl (Ex.call rfl Tryd.call17 (has_spec b L hS h z B w _ hB H.swapL)) rfl ?_); (try clear H); rintro _ w ⟨rfl, H⟩; replace H := H.swapL; refine ⟨(by first | exact H | exact H.drop | exact H.drop.drop | exact H.dropL | exact H.drop.dropL | exact H.dropL.drop | exact H.dropL.dropL | exact H.dropMid), ?_⟩
    refine OpsD.take 13 rfl (by kernel_rfl) (by first | exact H | exact H.drop | exact H.drop.drop | exact H.dropL | exact H.drop.dropL | exact H.dropL.drop | exact H.dropL.dropL | exact H.dropMid) (fun w H => Ev.boolNe (r := false) rfl rfl Tryd.underlying4 (by rw [hin]; simp)) rfl ?_
    refine OpsD.take 14 rfl (by kernel_rfl) (by first | exact H | exact H.drop | exact H.drop.drop | exact H.dropL | exact H.drop.dropL | exact H.dropL.drop | exact H.dropL.dropL | exact H.dropMid) (fun w H => Ev.move rfl) rfl ?_
    first | refine OpsD.takeYes 15 rfl (by kernel_rfl) rfl rfl (by first | exact H | exact H.drop | exact H.drop.drop | exact H.dropL | exact H.drop.dropL | exact H.dropL.drop | exact H.dropL.dropL | exact H.dropMid) (fun w H => Ev.move rfl) rfl ?_ | refine OpsD.takeNo 15 rfl (by kernel_rfl) rfl rfl (by first | exact H | exact H.drop | exact H.drop.drop | exact H.dropL | exact H.drop.dropL | exact H.dropL.drop | exact H.dropL.dropL | exact H.dropMid) rfl ?_ | refine OpsD.takeOff 15 rfl (by kernel_rfl) rfl rfl (by first | exact H | exact H.drop | exact H.drop.drop | exact H.dropL | exact H.drop.dropL | exact H.dropL.drop | exact H.dropL.dropL | exact H.dropMid) rfl ?_
    first | refine OpsD.takeYes 16 rfl (by kernel_rfl) rfl rfl (by first | exact H | exact H.drop | exact H.drop.drop | exact H.dropL | exact H.drop.dropL | exact H.dropL.drop | exact H.dropL.dropL | exact H.dropMid) (fun w H => Ev.move rfl) rfl ?_ | refine OpsD.takeNo 16 rfl (by kernel_rfl) rfl rfl (by first | exact H | exact H.drop | exact H.drop.drop | exact H.dropL | exact H.drop.dropL | exact H.dropL.drop | exact H.dropL.dropL | exact H.dropMid) rfl ?_ | refine OpsD.takeOff 16 rfl (by kernel_rfl) rfl rfl (by first | exact H | exact H.drop | exact H.drop.drop | exact H.dropL | exact H.drop.dropL | exact H.dropL.drop | exact H.dropL.dropL | exact H.dropMid) rfl ?_
    first | refine OpsD.takeYes 17 rfl (by kernel_rfl) rfl rfl (by first | exact H | exact H.drop | exact H.drop.drop | exact H.dropL | exact H.drop.dropL | exact H.dropL.drop | exact H.dropL.dropL | exact H.dropMid) (fun w H => Ev.move rfl) rfl ?_ | refine OpsD.takeNo 17 rfl (by kernel_rfl) rfl rfl (by first | exact H | exact H.drop | exact H.drop.drop | exact H.dropL | exact H.drop.dropL | exact H.dropL.drop | exact H.dropL.dropL | exact H.dropMid) rfl ?_ | refine OpsD.takeOff 17 rfl (by kernel_rfl) rfl rfl (by first | exact H | exact H.drop | exact H.drop.drop | exact H.dropL | exact H.drop.dropL | exact H.dropL.drop | exact H.dropL.dropL | exact H.dropMid) rfl ?_
    first | refine OpsD.takeYes 18 rfl (by kernel_rfl) rfl rfl (by first | exact H | exact H.drop | exact H.drop.drop | exact H.dropL | exact H.drop.dropL | exact H.dropL.drop | exact H.dropL.dropL | exact H.dropMid) (fun w H => Ev.iaSl (n := 40) (sz := 33) (m := i) (o := ol + i * 33) rfl rfl rfl (by kernel_rfl) (by omega)) rfl ?_ | refine OpsD.takeNo 18 rfl (by kernel_rfl) rfl rfl (by first | exact H | exact H.drop | exact H.drop.drop | exact H.dropL | exact H.drop.dropL | exact H.dropL.drop | exact H.dropL.dropL | exact H.dropMid) rfl ?_ | refine OpsD.takeOff 18 rfl (by kernel_rfl) rfl rfl (by first | exact H | exact H.drop | exact H.drop.drop | exact H.dropL | exact H.drop.dropL | exact H.dropL.drop | exact H.dropL.dropL | exact H.dropMid) rfl ?_
    first | refine OpsD.takeYes 19 rfl (by kernel_rfl) rfl rfl (by first | exact H | exact H.drop | exact H.drop.drop | exact H.dropL | exact H.drop.dropL | exact H.dropL.drop | exact H.dropL.dropL | exact H.dropMid) (fun w H => Ev.fieldAddr (o := 0) rfl (by kernel_rfl)) rfl ?_ | refine OpsD.takeNo 19 rfl (by kernel_rfl) rfl rfl (by first | exact H | exact H.drop | exact H.drop.drop | exact H.dropL | exact H.drop.dropL | exact H.dropL.drop | exact H.dropL.dropL | exact H.dropMid) rfl ?_ | refine OpsD.takeOff 19 rfl (by kernel_rfl) rfl rfl (by first | exact H | exact H.drop | exact H.drop.drop | exact H.dropL | exact H.drop.dropL | exact H.dropL.drop | exact H.dropL.dropL | exact H.dropMid) rfl ?_
    first | refine OpsD.takeYes 20 rfl (by kernel_rfl) rfl rfl (by first | exact H | exact H.drop | exact H.drop.drop | exact H.dropL | exact H.drop.dropL | exact H.dropL.drop | exact H.dropL.dropL | exact H.dropMid) (fun w H => Ev.load (v := .int .i64 z) H rfl (by kernel_rfl) (hrd 0 _ rfl)) rfl ?_ | refine OpsD.takeNo 20 rfl (by kernel_rfl) rfl rfl (by first | exact H | exact H.drop | exact H.drop.drop | exact H.dropL | exact H.drop.dropL | exact H.dropL.drop | exact H.dropL.dropL | exact H.dropMid) rfl ?_ | refine OpsD.takeOff 20 rfl (by kernel_rfl) rfl rfl (by first | exact H | exact H.drop | exact H.drop.drop | exact H.dropL | exact H.drop.dropL | exact H.dropL.drop | exact H.dropL.dropL | exact H.dropMid) rfl ?_
    first | refine OpsD.takeYes 21 rfl (by kernel_rfl) rfl rfl (by first | exact H | exact H.drop | exact H.drop.drop | exact H.dropL | exact H.drop.dropL | exact H.dropL.drop | exact H.dropL.dropL | exact H.dropMid) (fun w H => Ev.move rfl) rfl ?_ | refine OpsD.takeNo 21 rfl (by kernel_rfl) rfl rfl (by first | exact H | exact H.drop | exact H.drop.drop | exact H.dropL | exact H.drop.dropL | exact H.dropL.drop | exact H.dropL.dropL | exact H.dropMid) rfl ?_ | refine OpsD.takeOff 21 rfl (by kernel_rfl) rfl rfl (by first | exact H | exact H.drop | exact H.drop.drop | exact H.dropL | exact H.drop.dropL | exact H.dropL.drop | exact H.dropL.dropL | exact H.dropMid) rfl ?_
    first | refine OpsD.takeYes 22 rfl (by kernel_rfl) rfl rfl (by first | exact H | exact H.drop | exact H.drop.drop | exact H.dropL | exact H.drop.dropL | exact H.dropL.drop | exact H.dropL.dropL | exact H.dropMid) (fun w H => Ev.move rfl) rfl ?_ | refine OpsD.takeNo 22 rfl (by kernel_rfl) rfl rfl (by first | exact H | exact H.drop | exact H.drop.drop | exact H.dropL | exact H.drop.dropL | exact H.dropL.drop | exact H.dropL.dropL | exact H.dropMid) rfl ?_ | refine OpsD.takeOff 22 rfl (by kernel_rfl) rfl rfl (by first | exact H | exact H.drop | exact H.drop.drop | exact H.dropL | exact H.drop.dropL | exact H.dropL.drop | exact H.dropL.dropL | exact H.dropMid) rfl ?_
    first | refine OpsD.takeYes 23 rfl (by kernel_rfl) rfl rfl (by first | exact H | exact H.drop | exact H.drop.drop | exact H.dropL | exact H.drop.dropL | exact H.dropL.drop | exact H.dropL.dropL | exact H.dropMid) (fun w H => Ev.iaSl (n := 40) (sz := 33) (m := i) (o := ol + i * 33) rfl rfl rfl (by kernel_rfl) (by omega)) rfl ?_ | refine OpsD.takeNo 23 rfl (by kernel_rfl) rfl rfl (by first | exact H | exact H.drop | exact H.drop.drop | exact H.dropL | exact H.drop.dropL | exact H.dropL.drop | exact H.dropL.dropL | exact H.dropMid) rfl ?_ | refine OpsD.takeOff 23 rfl (by kernel_rfl) rfl rfl (by first | exact H | exact H.drop | exact H.drop.drop | exact H.dropL | exact H.drop.dropL | exact H.dropL.drop | exact H.dropL.dropL | exact H.dropMid) rfl ?_
    first | refine OpsD.takeYes 24 rfl (by kernel_rfl) rfl rfl (by first | exact H | exact H.drop | exact H.drop.drop | exact H.dropL | exact H.drop.dropL | exact H.dropL.drop | exact H.dropL.dropL | exact H.dropMid) (fun w H => Ev.fieldAddr (o := 1) rfl (by kernel_rfl)) rfl ?_ | refine OpsD.takeNo 24 rfl (by kernel_rfl) rfl rfl (by first | exact H | exact H.drop | exact H.drop.drop | exact H.dropL | exact H.drop.dropL | exact H.dropL.drop | exact H.dropL.dropL | exact H.dropMid) rfl ?_ | refine OpsD.takeOff 24 rfl (by kernel_rfl) rfl rfl (by first | exact H | exact H.drop | exact H.drop.drop | exact H.dropL | exact H.drop.dropL | exact H.dropL.drop | exact H.dropL.dropL | exact H.dropMid) rfl ?_
    first | refine OpsD.takeYes 25 rfl (by kernel_rfl) rfl rfl (by first | exact H | exact H.drop | exact H.drop.drop | exact H.dropL | exact H.drop.dropL | exact H.dropL.drop | exact H.dropL.dropL | exact H.dropMid) (fun w H => Ev.loadAgg (vs := gH h) H rfl (by rw [gH_len]; kernel_rfl) (fun j v hj => by rw [add_none, Nat.add_assoc, Nat.add_comm 1 j]; exact hrd (j + 1) v (by simpa using hj))) rfl ?_ | refine OpsD.takeNo 25 rfl (by kernel_rfl) rfl rfl (by first | exact H | exact H.drop | exact H.drop.drop | exact H.dropL | exact H.drop.dropL | exact H.dropL.drop | exact H.dropL.dropL | exact H.dropMid) rfl ?_ | refine OpsD.takeOff 25 rfl (by kernel_rfl) rfl rfl (by first | exact H | exact H.drop | exact H.drop.drop | exact H.dropL | exact H.drop.dropL | exact H.dropL.drop | exact H.dropL.dropL | exact H.dropMid) rfl ?_
    first | refine OpsD.takeYes 27 rfl (by kernel_rfl) rfl rfl (by first | exact H | exact H.drop | exact H.drop.drop | exact H.dropL | exact H.drop.dropL | exact H.dropL.drop | exact H.dropL.dropL | exact H.dropMid) (fun w H => Ev.move rfl) rfl ?_ | refine OpsD.takeNo 27 rfl (by kernel_rfl) rfl rfl (by first | exact H | exact H.drop | exact H.drop.drop | exact H.dropL | exact H.drop.dropL | exact H.dropL.drop | exact H.dropL.dropL | exact H.dropMid) rfl ?_ | refine OpsD.takeOff 27 rfl (by kernel_rfl) rfl rfl (by first | exact H | exact H.drop | exact H.drop.drop | exact H.dropL | exact H.drop.dropL | exact H.dropL.drop | exact H.dropL.dropL | exact H.dropMid) rfl ?_
    first | (refine OpsD.one 26 (by kernel_rfl) (StepD.exYes rfl rfl rfl (Ex.call rfl Tryd.call17 (has_spec c M hSM h z A w _ hA H)) rfl ?_); (try clear H); rintro _ w ⟨rfl, H⟩; refine ⟨(by first | exact H | exact H.drop | exact H.drop.drop | exact H.dropL | exact H.drop.dropL | exact H.dropL.drop | exact H.dropL.dropL | exact H.dropMid), ?_⟩) | refine OpsD.takeNo 26 rfl (by kernel_rfl) rfl rfl (by first | exact H | exact H.drop | exact H.drop.drop | exact H.dropL | exact H.drop.dropL | exact H.dropL.drop | exact H.dropL.dropL | exact H.dropMid) rfl ?_ | refine OpsD.takeOff 26 rfl (by kernel_rfl) rfl rfl (by first | exact H | exact H.drop | exact H.drop.drop | exact H.dropL | exact H.drop.dropL | exact H.dropL.drop | exact H.dropL.dropL | exact H.dropMid) rfl ?_
    first | refine OpsD.takeYes 28 rfl (by kernel_rfl) rfl rfl (by first | exact H | exact H.drop | exact H.drop.drop | exact H.dropL | exact H.drop.dropL | exact H.dropL.drop | exact H.dropL.dropL | exact H.dropMid) (fun w H => Ev.boolNe (r := false) rfl rfl Tryd.underlying4 (by rw [hin2]; simp)) rfl ?_ | refine OpsD.takeNo 28 rfl (by kernel_rfl) rfl rfl (by first | exact H | exact H.drop | exact H.drop.drop | exact H.dropL | exact H.drop.dropL | exact H.dropL.drop | exact H.dropL.dropL | exact H.dropMid) rfl ?_ | refine OpsD.takeOff 28 rfl (by kernel_rfl) rfl rfl (by first | exact H | exact H.drop | exact H.drop.drop | exact H.dropL | exact H.drop.dropL | exact H.dropL.drop | exact H.dropL.dropL | exact H.dropMid) rfl ?_
    refine OpsD.take 29 rfl (by kernel_rfl) (by first | exact H | exact H.drop | exact H.drop.drop | exact H.dropL | exact H.drop.dropL | exact H.dropL.drop | exact H.dropL.dropL | exact H.dropMid) (fun w H => (by first | exact Ev.pickT rfl rfl | exact Ev.pickF rfl rfl)) rfl ?_
    refine OpsD.done (by kernel_rfl) ?_
    repeat refine RunsE.seq ?_
    refine RunsE.no rfl ?_
    refine RunsE.skip ?_
    refine RunsE.inBlock ?_
    repeat (first | refine RunsE.seq ?_ | refine RunsE.skip ?_ | refine RunsE.block ?_ | refine RunsE.inBlock ?_ | refine RunsE.yes rfl ?_ | refine RunsE.no rfl ?_ | refine RunsE.exit rfl ?_)
    refine RunsE.region ?_
    refine OpsE.ev (Ev.move rfl) rfl ?_
    refine OpsE.ev (Ev.add rfl rfl) rfl ?_
    refine OpsE.ev (Ev.assign rfl) rfl ?_
    refine OpsE.nil ?_
    exact nextL (i + 1) _ _ (by omega) ⟨by omega, H⟩ ⟨rfl, rfl, rfl, rfl, rfl, rfl, trivial⟩
  clear H
  rintro _ w H
  repeat (first | refine RunsE.seq ?_ | refine RunsE.skip ?_ | refine RunsE.block ?_ | refine RunsE.inBlock ?_ | refine RunsE.yes rfl ?_ | refine RunsE.no rfl ?_ | refine RunsE.exit rfl ?_)
  refine RunsE.region ?_
  refine OpsE.ev (Ev.assign rfl) rfl ?_
  refine OpsE.nil ?_
  repeat refine RunsE.seq ?_
  refine RunsE.join (fun _ : Unit => [(5, .pointer (some ⟨b, 0, none⟩)), (9, .int .i64 (L.length : Int))]) (fun _ w => SL w (A ++ (B ++ (D ++ F)))) (fun next => ?_) ?_
  · refine RunsE.block ?_
    refine RunsE.loop (fun i : Nat => [(0, .slice al l.length cl), (1, .slice am m.length cm), (5, .pointer (some ⟨b, 0, none⟩)), (9, .int .i64 (L.length : Int)), (13, .int .i64 (i : Int))])
      (fun i w => i ≤ 40 ∧ SL w (A ++ (B ++ (D ++ F)))) (fun i => 40 - i) 0 ⟨rfl, rfl, rfl, rfl, rfl, trivial⟩ ⟨by omega, H⟩ ?_
    clear H
    rintro i w ⟨hi, H⟩ nextL
    by_cases h1 : m.length ≤ i
    ·
      repeat (first | refine RunsE.seq ?_ | refine RunsE.skip ?_ | refine RunsE.block ?_ | refine RunsE.inBlock ?_ | refine RunsE.yes rfl ?_ | refine RunsE.no rfl ?_ | refine RunsE.exit rfl ?_)
      refine RunsE.region ?_
      refine OpsE.ev (Ev.move rfl) rfl ?_
      refine OpsE.ev (Ev.move rfl) rfl ?_
      refine OpsE.ev (Ev.lenSl (d := 40) rfl rfl (by kernel_rfl)) rfl ?_
      refine OpsE.ev (Ev.lss (r := false) rfl rfl (decide_eq_false (by omega))) rfl ?_
      refine OpsE.ev (Ev.move rfl) rfl ?_
      first | (refine OpsE.yes rfl rfl ?_; refine OpsE.ev (Ev.move rfl) rfl ?_) | refine OpsE.no rfl rfl rfl ?_ | refine OpsE.off rfl rfl rfl ?_
      first | (refine OpsE.yes rfl rfl ?_; refine OpsE.ev (Ev.lss rfl rfl) rfl ?_) | refine OpsE.no rfl rfl rfl ?_ | refine OpsE.off rfl rfl rfl ?_
      refine OpsE.ev ((by first | exact Ev.pickT rfl rfl | exact Ev.pickF rfl rfl)) rfl ?_
      refine OpsE.nil ?_
      repeat refine RunsE.seq ?_
      refine RunsE.no rfl ?_
      refine RunsE.exit rfl ?_
      exact next () _ _ H ⟨rfl, rfl, trivial⟩
    by_cases h2 : i = 40
    ·
      repeat (first | refine RunsE.seq ?_ | refine RunsE.skip ?_ | refine RunsE.block ?_ | refine RunsE.inBlock ?_ | refine RunsE.yes rfl ?_ | refine RunsE.no rfl ?_ | refine RunsE.exit rfl ?_)
      refine RunsE.region ?_
      refine OpsE.ev (Ev.move rfl) rfl ?_
      refine OpsE.ev (Ev.move rfl) rfl ?_
      refine OpsE.ev (Ev.lenSl (d := 40) rfl rfl (by kernel_rfl)) rfl ?_
      refine OpsE.ev (Ev.lss (r := true) rfl rfl (decide_eq_true (by omega))) rfl ?_
      refine OpsE.ev (Ev.move rfl) rfl ?_
      first | (refine OpsE.yes rfl rfl ?_; refine OpsE.ev (Ev.move rfl) rfl ?_) | refine OpsE.no rfl rfl rfl ?_ | refine OpsE.off rfl rfl rfl ?_
      first | (refine OpsE.yes rfl rfl ?_; refine OpsE.ev (Ev.lss (r := false) rfl rfl (decide_eq_false (by omega))) rfl ?_) | refine OpsE.no rfl rfl rfl ?_ | refine OpsE.off rfl rfl rfl ?_
      refine OpsE.ev ((by first | exact Ev.pickT rfl rfl | exact Ev.pickF rfl rfl)) rfl ?_
      refine OpsE.nil ?_
      repeat refine RunsE.seq ?_
      refine RunsE.no rfl ?_
      refine RunsE.exit rfl ?_
      exact next () _ _ H ⟨rfl, rfl, trivial⟩
    clear next
    obtain ⟨x, bm, om, hx, rfl, hwx, hrdx⟩ := sg_at hvm (hF (A := A) (B := B)) (i := i) (by omega)
    obtain ⟨z, h⟩ := x
    try simp only at hrdx
    obtain ⟨wasF, hwasF⟩ : ∃ f : Nat → Bool, f = fun k => (inZ z && (l.take k).any fun p => decide (p = (z, h))) := ⟨_, rfl⟩
    have hw0 : wasF 0 = false := by rw [hwasF]; simp
    have hws : ∀ {k : Nat} {y : SgI}, l[k]? = some y → wasF (k + 1) = (wasF k || (inZ z && decide (y = (z, h)))) := fun {k y} hy => by
      rw [hwasF]
      simp only
      rw [List.take_add_one, hy, List.any_append]
      cases inZ z <;> simp
    repeat (first | refine RunsE.seq ?_ | refine RunsE.skip ?_ | refine RunsE.block ?_ | refine RunsE.inBlock ?_ | refine RunsE.yes rfl ?_ | refine RunsE.no rfl ?_ | refine RunsE.exit rfl ?_)
    refine RunsE.region ?_
    refine OpsE.ev (Ev.move rfl) rfl ?_
    refine OpsE.ev (Ev.move rfl) rfl ?_
    refine OpsE.ev (Ev.lenSl (d := 40) rfl rfl (by kernel_rfl)) rfl ?_
    refine OpsE.ev (Ev.lss (r := true) rfl rfl (decide_eq_true (by omega))) rfl ?_
    refine OpsE.ev (Ev.move rfl) rfl ?_
    first | (refine OpsE.yes rfl rfl ?_; refine OpsE.ev (Ev.move rfl) rfl ?_) | refine OpsE.no rfl rfl rfl ?_ | refine OpsE.off rfl rfl rfl ?_
    first | (refine OpsE.yes rfl rfl ?_; refine OpsE.ev (Ev.lss (r := true) rfl rfl (decide_eq_true (by omega))) rfl ?_) | refine OpsE.no rfl rfl rfl ?_ | refine OpsE.off rfl rfl rfl ?_
    refine OpsE.ev ((by first | exact Ev.pickT rfl rfl | exact Ev.pickF rfl rfl)) rfl ?_
    refine OpsE.nil ?_
    repeat (first | refine RunsE.seq ?_ | refine RunsE.skip ?_ | refine RunsE.block ?_ | refine RunsE.inBlock ?_ | refine RunsE.yes rfl ?_ | refine RunsE.no rfl ?_ | refine RunsE.exit rfl ?_)
    repeat (first | refine RunsE.seq ?_ | refine RunsE.skip ?_ | refine RunsE.block ?_ | refine RunsE.inBlock ?_ | refine RunsE.yes rfl ?_ | refine RunsE.no rfl ?_ | refine RunsE.exit rfl ?_)
    refine RunsE.region ?_
    refine OpsE.ev (Ev.assign rfl) rfl ?_
    refine OpsE.nil ?_
    repeat (first | refine RunsE.seq ?_ | refine RunsE.skip ?_ | refine RunsE.block ?_ | refine RunsE.inBlock ?_ | refine RunsE.yes rfl ?_ | refine RunsE.no rfl ?_ | refine RunsE.exit rfl ?_)
    refine RunsE.region ?_
    refine OpsE.ev (Ev.assign rfl) rfl ?_
    refine OpsE.nil ?_
    refine (RunsE.join (fun _ : Unit => [(0, .slice al l.length cl), (1, .slice (some ⟨bm, om, none⟩) m.length cm), (5, .pointer (some ⟨b, 0, none⟩)), (9, .int .i64 (L.length : Int)), (13, .int .i64 (i : Int)), (14, .bool (hasZ L z h))])
      (fun _ w => SL w (A ++ (B ++ (D ++ F)))) (fun next => ?_) ?_)
    · refine RunsE.block ?_
      refine RunsE.loop (fun k : Nat => [(0, .slice al l.length cl), (1, .slice (some ⟨bm, om, none⟩) m.length cm), (5, .pointer (some ⟨b, 0, none⟩)), (9, .int .i64 (L.length : Int)), (13, .int .i64 (i : Int)), (14, .bool (wasF k)), (15, .int .i64 (k : Int))])
        (fun k w => k ≤ 60 ∧ k ≤ l.length ∧ SL w (A ++ (B ++ (D ++ F)))) (fun k => 60 - k) 0 ⟨rfl, rfl, rfl, rfl, rfl, congrArg (fun r => some (Value.bool r)) hw0.symm, rfl, trivial⟩ ⟨by omega, by omega, H⟩ ?_
      clear H
      rintro k w ⟨hk, hkl, H⟩ nextK
      by_cases h3 : k = l.length
      · have e1 : wasF k = hasZ L z h := by
          rw [hL, laidL_has, hwasF]
          simp only
          rw [List.take_of_length_le (by omega), List.take_of_length_le (by omega)]
        repeat (first | refine RunsE.seq ?_ | refine RunsE.skip ?_ | refine RunsE.block ?_ | refine RunsE.inBlock ?_ | refine RunsE.yes rfl ?_ | refine RunsE.no rfl ?_ | refine RunsE.exit rfl ?_)
        refine RunsE.region ?_
        refine OpsE.ev (Ev.move rfl) rfl ?_
        refine OpsE.ev (Ev.move rfl) rfl ?_
        refine OpsE.ev (Ev.lenSl (d := 40) rfl rfl (by kernel_rfl)) rfl ?_
        refine OpsE.ev (Ev.lss (r := false) rfl rfl (decide_eq_false (by omega))) rfl ?_
        refine OpsE.ev (Ev.move rfl) rfl ?_
        first | (refine OpsE.yes rfl rfl ?_; refine OpsE.ev (Ev.move rfl) rfl ?_) | refine OpsE.no rfl rfl rfl ?_ | refine OpsE.off rfl rfl rfl ?_
        first | (refine OpsE.yes rfl rfl ?_; refine OpsE.ev (Ev.lss rfl rfl) rfl ?_) | refine OpsE.no rfl rfl rfl ?_ | refine OpsE.off rfl rfl rfl ?_
        refine OpsE.ev ((by first | exact Ev.pickT rfl rfl | exact Ev.pickF rfl rfl)) rfl ?_
        refine OpsE.nil ?_
        repeat refine RunsE.seq ?_
        refine RunsE.no rfl ?_
        refine RunsE.exit rfl ?_
        exact next () _ _ H ⟨rfl, rfl, rfl, rfl, rfl, congrArg (fun r => some (Value.bool r)) e1, trivial⟩
      by_cases h4 : k = 60
      · have e1 : wasF k = hasZ L z h := by rw [hL, laidL_has, hwasF, h4]
        repeat (first | refine RunsE.seq ?_ | refine RunsE.skip ?_ | refine RunsE.block ?_ | refine RunsE.inBlock ?_ | refine RunsE.yes rfl ?_ | refine RunsE.no rfl ?_ | refine RunsE.exit rfl ?_)
        refine RunsE.region ?_
        refine OpsE.ev (Ev.move rfl) rfl ?_
        refine OpsE.ev (Ev.move rfl) rfl ?_
        refine OpsE.ev (Ev.lenSl (d := 40) rfl rfl (by kernel_rfl)) rfl ?_
        refine OpsE.ev (Ev.lss (r := true) rfl rfl (decide_eq_true (by omega))) rfl ?_
        refine OpsE.ev (Ev.move rfl) rfl ?_
        first | (refine OpsE.yes rfl rfl ?_; refine OpsE.ev (Ev.move rfl) rfl ?_) | refine OpsE.no rfl rfl rfl ?_ | refine OpsE.off rfl rfl rfl ?_
        first | (refine OpsE.yes rfl rfl ?_; refine OpsE.ev (Ev.lss (r := false) rfl rfl (decide_eq_false (by omega))) rfl ?_) | refine OpsE.no rfl rfl rfl ?_ | refine OpsE.off rfl rfl rfl ?_
        refine OpsE.ev ((by first | exact Ev.pickT rfl rfl | exact Ev.pickF rfl rfl)) rfl ?_
        refine OpsE.nil ?_
        repeat refine RunsE.seq ?_
        refine RunsE.no rfl ?_
        refine RunsE.exit rfl ?_
        exact next () _ _ H ⟨rfl, rfl, rfl, rfl, rfl, congrArg (fun r => some (Value.bool r)) e1, trivial⟩
      clear next
      obtain ⟨y, bl, ol, hy, rfl, hwy, hrdy⟩ := sg_at hvl (hF (A := A) (B := B)) (i := k) (by omega)
      have hstep := hws hy
      repeat (first | refine RunsE.seq ?_ | refine RunsE.skip ?_ | refine RunsE.block ?_ | refine RunsE.inBlock ?_ | refine RunsE.yes rfl ?_ | refine RunsE.no rfl ?_ | refine RunsE.exit rfl ?_)
      refine RunsE.region ?_
      refine OpsE.ev (Ev.move rfl) rfl ?_
      refine OpsE.ev (Ev.move rfl) rfl ?_
      refine OpsE.ev (Ev.lenSl (d := 40) rfl rfl (by kernel_rfl)) rfl ?_
      refine OpsE.ev (Ev.lss (r := true) rfl rfl (decide_eq_true (by omega))) rfl ?_
      refine OpsE.ev (Ev.move rfl) rfl ?_
      first | (refine OpsE.yes rfl rfl ?_; refine OpsE.ev (Ev.move rfl) rfl ?_) | refine OpsE.no rfl rfl rfl ?_ | refine OpsE.off rfl rfl rfl ?_
      first | (refine OpsE.yes rfl rfl ?_; refine OpsE.ev (Ev.lss (r := true) rfl rfl (decide_eq_true (by omega))) rfl ?_) | refine OpsE.no rfl rfl rfl ?_ | refine OpsE.off rfl rfl rfl ?_
      refine OpsE.ev ((by first | exact Ev.pickT rfl rfl | exact Ev.pickF rfl rfl)) rfl ?_
      refine OpsE.nil ?_
      repeat (first | refine RunsE.seq ?_ | refine RunsE.skip ?_ | refine RunsE.block ?_ | refine RunsE.inBlock ?_ | refine RunsE.yes rfl ?_ | refine RunsE.no rfl ?_ | refine RunsE.exit rfl ?_)
      cases hwk : wasF k with
      | true =>
        have hfin : wasF (k + 1) = true := by rw [hstep, hwk, Bool.true_or]
        repeat (first | refine RunsE.seq ?_ | refine RunsE.skip ?_ | refine RunsE.block ?_ | refine RunsE.inBlock ?_ | refine RunsE.yes rfl ?_ | refine RunsE.no rfl ?_ | refine RunsE.exit rfl ?_)
        refine RunsE.drawS H [] (by kernel_rfl) ?_; (try clear H); intro w H
        refine OpsD.take 0 rfl (by kernel_rfl) (by first | exact H | exact H.drop | exact H.drop.drop | exact H.dropL | exact H.drop.dropL | exact H.dropL.drop | exact H.dropL.dropL | exact H.dropMid) (fun w H => Ev.move rfl) rfl ?_
        refine OpsD.take 1 rfl (by kernel_rfl) (by first | exact H | exact H.drop | exact H.drop.drop | exact H.dropL | exact H.drop.dropL | exact H.dropL.drop | exact H.dropL.dropL | exact H.dropMid) (fun w H => Ev.move rfl) rfl ?_
        first | refine OpsD.takeYes 2 rfl (by kernel_rfl) rfl rfl (by first | exact H | exact H.drop | exact H.drop.drop | exact H.dropL | exact H.drop.dropL | exact H.dropL.drop | exact H.dropL.dropL | exact H.dropMid) (fun w H => Ev.move rfl) rfl ?_ | refine OpsD.takeNo 2 rfl (by kernel_rfl) rfl rfl (by first | exact H | exact H.drop | exact H.drop.drop | exact H.dropL | exact H.drop.dropL | exact H.dropL.drop | exact H.dropL.dropL | exact H.dropMid) rfl ?_ | refine OpsD.takeOff 2 rfl (by kernel_rfl) rfl rfl (by first | exact H | exact H.drop | exact H.drop.drop | exact H.dropL | exact H.drop.dropL | exact H.dropL.drop | exact H.dropL.dropL | exact H.dropMid) rfl ?_
        first | refine OpsD.takeYes 3 rfl (by kernel_rfl) rfl rfl (by first | exact H | exact H.drop | exact H.drop.drop | exact H.dropL | exact H.drop.dropL | exact H.dropL.drop | exact H.dropL.dropL | exact H.dropMid) (fun w H => Ev.move rfl) rfl ?_ | refine OpsD.takeNo 3 rfl (by kernel_rfl) rfl rfl (by first | exact H | exact H.drop | exact H.drop.drop | exact H.dropL | exact H.drop.dropL | exact H.dropL.drop | exact H.dropL.dropL | exact H.dropMid) rfl ?_ | refine OpsD.takeOff 3 rfl (by kernel_rfl) rfl rfl (by first | exact H | exact H.drop | exact H.drop.drop | exact H.dropL | exact H.drop.dropL | exact H.dropL.drop | exact H.dropL.dropL | exact H.dropMid) rfl ?_
        first | refine OpsD.takeYes 4 rfl (by kernel_rfl) rfl rfl (by first | exact H | exact H.drop | exact H.drop.drop | exact H.dropL | exact H.drop.dropL | exact H.dropL.drop | exact H.dropL.dropL | exact H.dropMid) (fun w H => Ev.iaSl (n := 40) (sz := 33) (m := k) (o := ol + k * 33) rfl rfl rfl (by kernel_rfl) (by omega)) rfl ?_ | refine OpsD.takeNo 4 rfl (by kernel_rfl) rfl rfl (by first | exact H | exact H.drop | exact H.drop.drop | exact H.dropL | exact H.drop.dropL | exact H.dropL.drop | exact H.dropL.dropL | exact H.dropMid) rfl ?_ | refine OpsD.takeOff 4 rfl (by kernel_rfl) rfl rfl (by first | exact H | exact H.drop | exact H.drop.drop | exact H.dropL | exact H.drop.dropL | exact H.dropL.drop | exact H.dropL.dropL | exact H.dropMid) rfl ?_
        first | refine OpsD.takeYes 5 rfl (by kernel_rfl) rfl rfl (by first | exact H | exact H.drop | exact H.drop.drop | exact H.dropL | exact H.drop.dropL | exact H.dropL.drop | exact H.dropL.dropL | exact H.dropMid) (fun w H => Ev.loadAgg (vs := gI1 y) H rfl (by rw [List.length_cons, gH_len]; kernel_rfl) (fun j v hj => by rw [add_none]; exact hrdy j v hj)) rfl ?_ | refine OpsD.takeNo 5 rfl (by kernel_rfl) rfl rfl (by first | exact H | exact H.drop | exact H.drop.drop | exact H.dropL | exact H.drop.dropL | exact H.dropL.drop | exact H.dropL.dropL | exact H.dropMid) rfl ?_ | refine OpsD.takeOff 5 rfl (by kernel_rfl) rfl rfl (by first | exact H | exact H.drop | exact H.drop.drop | exact H.dropL | exact H.drop.dropL | exact H.dropL.drop | exact H.dropL.dropL | exact H.dropMid) rfl ?_
        first | refine OpsD.takeYes 6 rfl (by kernel_rfl) rfl rfl (by first | exact H | exact H.drop | exact H.drop.drop | exact H.dropL | exact H.drop.dropL | exact H.dropL.drop | exact H.dropL.dropL | exact H.dropMid) (fun w H => Ev.move rfl) rfl ?_ | refine OpsD.takeNo 6 rfl (by kernel_rfl) rfl rfl (by first | exact H | exact H.drop | exact H.drop.drop | exact H.dropL | exact H.drop.dropL | exact H.dropL.drop | exact H.dropL.dropL | exact H.dropMid) rfl ?_ | refine OpsD.takeOff 6 rfl (by kernel_rfl) rfl rfl (by first | exact H | exact H.drop | exact H.drop.drop | exact H.dropL | exact H.drop.dropL | exact H.dropL.drop | exact H.dropL.dropL | exact H.dropMid) rfl ?_
        first | refine OpsD.takeYes 7 rfl (by kernel_rfl) rfl rfl (by first | exact H | exact H.drop | exact H.drop.drop | exact H.dropL | exact H.drop.dropL | exact H.dropL.drop | exact H.dropL.dropL | exact H.dropMid) (fun w H => Ev.move rfl) rfl ?_ | refine OpsD.takeNo 7 rfl (by kernel_rfl) rfl rfl (by first | exact H | exact H.drop | exact H.drop.drop | exact H.dropL | exact H.drop.dropL | exact H.dropL.drop | exact H.dropL.dropL | exact H.dropMid) rfl ?_ | refine OpsD.takeOff 7 rfl (by kernel_rfl) rfl rfl (by first | exact H | exact H.drop | exact H.drop.drop | exact H.dropL | exact H.drop.dropL | exact H.dropL.drop | exact H.dropL.dropL | exact H.dropMid) rfl ?_
        first | refine OpsD.takeYes 8 rfl (by kernel_rfl) rfl rfl (by first | exact H | exact H.drop | exact H.drop.drop | exact H.dropL | exact H.drop.dropL | exact H.dropL.drop | exact H.dropL.dropL | exact H.dropMid) (fun w H => Ev.iaSl (n := 40) (sz := 33) (m := i) (o := om + i * 33) rfl rfl rfl (by kernel_rfl) (by omega)) rfl ?_ | refine OpsD.takeNo 8 rfl (by kernel_rfl) rfl rfl (by first | exact H | exact H.drop | exact H.drop.drop | exact H.dropL | exact H.drop.dropL | exact H.dropL.drop | exact H.dropL.dropL | exact H.dropMid) rfl ?_ | refine OpsD.takeOff 8 rfl (by kernel_rfl) rfl rfl (by first | exact H | exact H.drop | exact H.drop.drop | exact H.dropL | exact H.drop.dropL | exact H.dropL.drop | exact H.dropL.dropL | exact H.dropMid) rfl ?_
        first | refine OpsD.takeYes 9 rfl (by kernel_rfl) rfl rfl (by first | exact H | exact H.drop | exact H.drop.drop | exact H.dropL | exact H.drop.dropL | exact H.dropL.drop | exact H.dropL.dropL | exact H.dropMid) (fun w H => Ev.loadAgg (vs := gI1 (z, h)) H rfl (by rw [List.length_cons, gH_len]; kernel_rfl) (fun j v hj => by rw [add_none]; exact hrdx j v hj)) rfl ?_ | refine OpsD.takeNo 9 rfl (by kernel_rfl) rfl rfl (by first | exact H | exact H.drop | exact H.drop.drop | exact H.dropL | exact H.drop.dropL | exact H.dropL.drop | exact H.dropL.dropL | exact H.dropMid) rfl ?_ | refine OpsD.takeOff 9 rfl (by kernel_rfl) rfl rfl (by first | exact H | exact H.drop | exact H.drop.drop | exact H.dropL | exact H.drop.dropL | exact H.dropL.drop | exact H.dropL.dropL | exact H.dropMid) rfl ?_
        first | refine OpsD.takeYes 10 rfl (by kernel_rfl) rfl rfl (by first | exact H | exact H.drop | exact H.drop.drop | exact H.dropL | exact H.drop.dropL | exact H.dropL.drop | exact H.dropL.dropL | exact H.dropMid) (fun w H => sgEqR y (z, h) hwy hwx rfl rfl (r := true) (decide_eq_true rfl)) rfl ?_ | refine OpsD.takeNo 10 rfl (by kernel_rfl) rfl rfl (by first | exact H | exact H.drop | exact H.drop.drop | exact H.dropL | exact H.drop.dropL | exact H.dropL.drop | exact H.dropL.dropL | exact H.dropMid) rfl ?_ | refine OpsD.takeOff 10 rfl (by kernel_rfl) rfl rfl (by first | exact H | exact H.drop | exact H.drop.drop | exact H.dropL | exact H.drop.dropL | exact H.dropL.drop | exact H.dropL.dropL | exact H.dropMid) rfl ?_
        first | refine OpsD.takeYes 11 rfl (by kernel_rfl) rfl rfl (by first | exact H | exact H.drop | exact H.drop.drop | exact H.dropL | exact H.drop.dropL | exact H.dropL.drop | exact H.dropL.dropL | exact H.dropMid) (fun w H => Ev.move rfl) rfl ?_ | refine OpsD.takeNo 11 rfl (by kernel_rfl) rfl rfl (by first | exact H | exact H.drop | exact H.drop.drop | exact H.dropL | exact H.drop.dropL | exact H.dropL.drop | exact H.dropL.dropL | exact H.dropMid) rfl ?_ | refine OpsD.takeOff 11 rfl (by kernel_rfl) rfl rfl (by first | exact H | exact H.drop | exact H.drop.drop | exact H.dropL | exact H.drop.dropL | exact H.dropL.drop | exact H.dropL.dropL | exact H.dropMid) rfl ?_
        first | refine OpsD.takeYes 12 rfl (by kernel_rfl) rfl rfl (by first | exact H | exact H.drop | exact H.drop.drop | exact H.dropL | exact H.drop.dropL | exact H.dropL.drop | exact H.dropL.dropL | exact H.dropMid) (fun w H => Ev.move rfl) rfl ?_ | refine OpsD.takeNo 12 rfl (by kernel_rfl) rfl rfl (by first | exact H | exact H.drop | exact H.drop.drop | exact H.dropL | exact H.drop.dropL | exact H.dropL.drop | exact H.dropL.dropL | exact H.dropMid) rfl ?_ | refine OpsD.takeOff 12 rfl (by kernel_rfl) rfl rfl (by first | exact H | exact H.drop | exact H.drop.drop | exact H.dropL | exact H.drop.dropL | exact H.dropL.drop | exact H.dropL.dropL | exact H.dropMid) rfl ?_
        first | refine OpsD.takeYes 13 rfl (by kernel_rfl) rfl rfl (by first | exact H | exact H.drop | exact H.drop.drop | exact H.dropL | exact H.drop.dropL | exact H.dropL.drop | exact H.dropL.dropL | exact H.dropMid) (fun w H => Ev.move rfl) rfl ?_ | refine OpsD.takeNo 13 rfl (by kernel_rfl) rfl rfl (by first | exact H | exact H.drop | exact H.drop.drop | exact H.dropL | exact H.drop.dropL | exact H.dropL.drop | exact H.dropL.dropL | exact H.dropMid) rfl ?_ | refine OpsD.takeOff 13 rfl (by kernel_rfl) rfl rfl (by first | exact H | exact H.drop | exact H.drop.drop | exact H.dropL | exact H.drop.dropL | exact H.dropL.drop | exact H.dropL.dropL | exact H.dropMid) rfl ?_
        first | refine OpsD.takeYes 14 rfl (by kernel_rfl) rfl rfl (by first | exact H | exact H.drop | exact H.drop.drop | exact H.dropL | exact H.drop.dropL | exact H.dropL.drop | exact H.dropL.dropL | exact H.dropMid) (fun w H => Ev.iaSl (n := 40) (sz := 33) (m := i) (o := om + i * 33) rfl rfl rfl (by kernel_rfl) (by omega)) rfl ?_ | refine OpsD.takeNo 14 rfl (by kernel_rfl) rfl rfl (by first | exact H | exact H.drop | exact H.drop.drop | exact H.dropL | exact H.drop.dropL | exact H.dropL.drop | exact H.dropL.dropL | exact H.dropMid) rfl ?_ | refine OpsD.takeOff 14 rfl (by kernel_rfl) rfl rfl (by first | exact H | exact H.drop | exact H.drop.drop | exact H.dropL | exact H.drop.dropL | exact H.dropL.drop | exact H.dropL.dropL | exact H.dropMid) rfl ?_
        first | refine OpsD.takeYes 15 rfl (by kernel_rfl) rfl rfl (by first | exact H | exact H.drop | exact H.drop.drop | exact H.dropL | exact H.drop.dropL | exact H.dropL.drop | exact H.dropL.dropL | exact H.dropMid) (fun w H => Ev.fieldAddr (o := 0) rfl (by kernel_rfl)) rfl ?_ | refine OpsD.takeNo 15 rfl (by kernel_rfl) rfl rfl (by first | exact H | exact H.drop | exact H.drop.drop | exact H.dropL | exact H.drop.dropL | exact H.dropL.drop | exact H.dropL.dropL | exact H.dropMid) rfl ?_ | refine OpsD.takeOff 15 rfl (by kernel_rfl) rfl rfl (by first | exact H | exact H.drop | exact H.drop.drop | exact H.dropL | exact H.drop.dropL | exact H.dropL.drop | exact H.dropL.dropL | exact H.dropMid) rfl ?_
        first | refine OpsD.takeYes 16 rfl (by kernel_rfl) rfl rfl (by first | exact H | exact H.drop | exact H.drop.drop | exact H.dropL | exact H.drop.dropL | exact H.dropL.drop | exact H.dropL.dropL | exact H.dropMid) (fun w H => Ev.load (v := .int .i64 z) H rfl (by kernel_rfl) (hrdx 0 _ rfl)) rfl ?_ | refine OpsD.takeNo 16 rfl (by kernel_rfl) rfl rfl (by first | exact H | exact H.drop | exact H.drop.drop | exact H.dropL | exact H.drop.dropL | exact H.dropL.drop | exact H.dropL.dropL | exact H.dropMid) rfl ?_ | refine OpsD.takeOff 16 rfl (by kernel_rfl) rfl rfl (by first | exact H | exact H.drop | exact H.drop.drop | exact H.dropL | exact H.drop.dropL | exact H.dropL.drop | exact H.dropL.dropL | exact H.dropMid) rfl ?_
        first | refine OpsD.takeYes 17 rfl (by kernel_rfl) rfl rfl (by first | exact H | exact H.drop | exact H.drop.drop | exact H.dropL | exact H.drop.dropL | exact H.dropL.drop | exact H.dropL.dropL | exact H.dropMid) (fun w H => Ev.geq (r := true) rfl rfl (decide_eq_true (by omega))) rfl ?_ | refine OpsD.takeNo 17 rfl (by kernel_rfl) rfl rfl (by first | exact H | exact H.drop | exact H.drop.drop | exact H.dropL | exact H.drop.dropL | exact H.dropL.drop | exact H.dropL.dropL | exact H.dropMid) rfl ?_ | refine OpsD.takeOff 17 rfl (by kernel_rfl) rfl rfl (by first | exact H | exact H.drop | exact H.drop.drop | exact H.dropL | exact H.drop.dropL | exact H.dropL.drop | exact H.dropL.dropL | exact H.dropMid) rfl ?_
        first | refine OpsD.takeYes 18 rfl (by kernel_rfl) rfl rfl (by first | exact H | exact H.drop | exact H.drop.drop | exact H.dropL | exact H.drop.dropL | exact H.dropL.drop | exact H.dropL.dropL | exact H.dropMid) (fun w H => (by first | exact Ev.pickT rfl rfl | exact Ev.pickF rfl rfl)) rfl ?_ | refine OpsD.takeNo 18 rfl (by kernel_rfl) rfl rfl (by first | exact H | exact H.drop | exact H.drop.drop | exact H.dropL | exact H.drop.dropL | exact H.dropL.drop | exact H.dropL.dropL | exact H.dropMid) rfl ?_ | refine OpsD.takeOff 18 rfl (by kernel_rfl) rfl rfl (by first | exact H | exact H.drop | exact H.drop.drop | exact H.dropL | exact H.drop.dropL | exact H.dropL.drop | exact H.dropL.dropL | exact H.dropMid) rfl ?_
        first | refine OpsD.takeYes 19 rfl (by kernel_rfl) rfl rfl (by first | exact H | exact H.drop | exact H.drop.drop | exact H.dropL | exact H.drop.dropL | exact H.dropL.drop | exact H.dropL.dropL | exact H.dropMid) (fun w H => Ev.move rfl) rfl ?_ | refine OpsD.takeNo 19 rfl (by kernel_rfl) rfl rfl (by first | exact H | exact H.drop | exact H.drop.drop | exact H.dropL | exact H.drop.dropL | exact H.dropL.drop | exact H.dropL.dropL | exact H.dropMid) rfl ?_ | refine OpsD.takeOff 19 rfl (by kernel_rfl) rfl rfl (by first | exact H | exact H.drop | exact H.drop.drop | exact H.dropL | exact H.drop.dropL | exact H.dropL.drop | exact H.dropL.dropL | exact H.dropMid) rfl ?_
        first | refine OpsD.takeYes 20 rfl (by kernel_rfl) rfl rfl (by first | exact H | exact H.drop | exact H.drop.drop | exact H.dropL | exact H.drop.dropL | exact H.dropL.drop | exact H.dropL.dropL | exact H.dropMid) (fun w H => Ev.move rfl) rfl ?_ | refine OpsD.takeNo 20 rfl (by kernel_rfl) rfl rfl (by first | exact H | exact H.drop | exact H.drop.drop | exact H.dropL | exact H.drop.dropL | exact H.dropL.drop | exact H.dropL.dropL | exact H.dropMid) rfl ?_ | refine OpsD.takeOff 20 rfl (by kernel_rfl) rfl rfl (by first | exact H | exact H.drop | exact H.drop.drop | exact H.dropL | exact H.drop.dropL | exact H.dropL.drop | exact H.dropL.dropL | exact H.dropMid) rfl ?_
        first | refine OpsD.takeYes 21 rfl (by kernel_rfl) rfl rfl (by first | exact H | exact H.drop | exact H.drop.drop | exact H.dropL | exact H.drop.dropL | exact H.dropL.drop | exact H.dropL.dropL | exact H.dropMid) (fun w H => Ev.move rfl) rfl ?_ | refine OpsD.takeNo 21 rfl (by kernel_rfl) rfl rfl (by first | exact H | exact H.drop | exact H.drop.drop | exact H.dropL | exact H.drop.dropL | exact H.dropL.drop | exact H.dropL.dropL | exact H.dropMid) rfl ?_ | refine OpsD.takeOff 21 rfl (by kernel_rfl) rfl rfl (by first | exact H | exact H.drop | exact H.drop.drop | exact H.dropL | exact H.drop.dropL | exact H.dropL.drop | exact H.dropL.dropL | exact H.dropMid) rfl ?_
        first | refine OpsD.takeYes 22 rfl (by kernel_rfl) rfl rfl (by first | exact H | exact H.drop | exact H.drop.drop | exact H.dropL | exact H.drop.dropL | exact H.dropL.drop | exact H.dropL.dropL | exact H.dropMid) (fun w H => Ev.iaSl (n := 40) (sz := 33) (m := i) (o := om + i * 33) rfl rfl rfl (by kernel_rfl) (by omega)) rfl ?_ | refine OpsD.takeNo 22 rfl (by kernel_rfl) rfl rfl (by first | exact H | exact H.drop | exact H.drop.drop | exact H.dropL | exact H.drop.dropL | exact H.dropL.drop | exact H.dropL.dropL | exact H.dropMid) rfl ?_ | refine OpsD.takeOff 22 rfl (by kernel_rfl) rfl rfl (by first | exact H | exact H.drop | exact H.drop.drop | exact H.dropL | exact H.drop.dropL | exact H.dropL.drop | exact H.dropL.dropL | exact H.dropMid) rfl ?_
        first | refine OpsD.takeYes 23 rfl (by kernel_rfl) rfl rfl (by first | exact H | exact H.drop | exact H.drop.drop | exact H.dropL | exact H.drop.dropL | exact H.dropL.drop | exact H.dropL.dropL | exact H.dropMid) (fun w H => Ev.fieldAddr (o := 0) rfl (by kernel_rfl)) rfl ?_ | refine OpsD.takeNo 23 rfl (by kernel_rfl) rfl rfl (by first | exact H | exact H.drop | exact H.drop.drop | exact H.dropL | exact H.drop.dropL | exact H.dropL.drop | exact H.dropL.dropL | exact H.dropMid) rfl ?_ | refine OpsD.takeOff 23 rfl (by kernel_rfl) rfl rfl (by first | exact H | exact H.drop | exact H.drop.drop | exact H.dropL | exact H.drop.dropL | exact H.dropL.drop | exact H.dropL.dropL | exact H.dropMid) rfl ?_
        first | refine OpsD.takeYes 24 rfl (by kernel_rfl) rfl rfl (by first | exact H | exact H.drop | exact H.drop.drop | exact H.dropL | exact H.drop.dropL | exact H.dropL.drop | exact H.dropL.dropL | exact H.dropMid) (fun w H => Ev.load (v := .int .i64 z) H rfl (by kernel_rfl) (hrdx 0 _ rfl)) rfl ?_ | refine OpsD.takeNo 24 rfl (by kernel_rfl) rfl rfl (by first | exact H | exact H.drop | exact H.drop.drop | exact H.dropL | exact H.drop.dropL | exact H.dropL.drop | exact H.dropL.dropL | exact H.dropMid) rfl ?_ | refine OpsD.takeOff 24 rfl (by kernel_rfl) rfl rfl (by first | exact H | exact H.drop | exact H.drop.drop | exact H.dropL | exact H.drop.dropL | exact H.dropL.drop | exact H.dropL.dropL | exact H.dropMid) rfl ?_
        first | refine OpsD.takeYes 25 rfl (by kernel_rfl) rfl rfl (by first | exact H | exact H.drop | exact H.drop.drop | exact H.dropL | exact H.drop.dropL | exact H.dropL.drop | exact H.dropL.dropL | exact H.dropMid) (fun w H => Ev.lss (r := true) rfl rfl (decide_eq_true (by omega))) rfl ?_ | refine OpsD.takeNo 25 rfl (by kernel_rfl) rfl rfl (by first | exact H | exact H.drop | exact H.drop.drop | exact H.dropL | exact H.drop.dropL | exact H.dropL.drop | exact H.dropL.dropL | exact H.dropMid) rfl ?_ | refine OpsD.takeOff 25 rfl (by kernel_rfl) rfl rfl (by first | exact H | exact H.drop | exact H.drop.drop | exact H.dropL | exact H.drop.dropL | exact H.dropL.drop | exact H.dropL.dropL | exact H.dropMid) rfl ?_
        first | refine OpsD.takeYes 26 rfl (by kernel_rfl) rfl rfl (by first | exact H | exact H.drop | exact H.drop.drop | exact H.dropL | exact H.drop.dropL | exact H.dropL.drop | exact H.dropL.dropL | exact H.dropMid) (fun w H => (by first | exact Ev.pickT rfl rfl | exact Ev.pickF rfl rfl)) rfl ?_ | refine OpsD.takeNo 26 rfl (by kernel_rfl) rfl rfl (by first | exact H | exact H.drop | exact H.drop.drop | exact H.dropL | exact H.drop.dropL | exact H.dropL.drop | exact H.dropL.dropL | exact H.dropMid) rfl ?_ | refine OpsD.takeOff 26 rfl (by kernel_rfl) rfl rfl (by first | exact H | exact H.drop | exact H.drop.drop | exact H.dropL | exact H.drop.dropL | exact H.dropL.drop | exact H.dropL.dropL | exact H.dropMid) rfl ?_
        refine OpsD.take 27 rfl (by kernel_rfl) (by first | exact H | exact H.drop | exact H.drop.drop | exact H.dropL | exact H.drop.dropL | exact H.dropL.drop | exact H.dropL.dropL | exact H.dropMid) (fun w H => (by first | exact Ev.pickT rfl rfl | exact Ev.pickF rfl rfl)) rfl ?_
        refine OpsD.take 28 rfl (by kernel_rfl) (by first | exact H | exact H.drop | exact H.drop.drop | exact H.dropL | exact H.drop.dropL | exact H.dropL.drop | exact H.dropL.dropL | exact H.dropMid) (fun w H => Ev.assign rfl) rfl ?_
        refine OpsD.done (by kernel_rfl) ?_
        refine RunsE.inBlock ?_
        repeat (first | refine RunsE.seq ?_ | refine RunsE.skip ?_ | refine RunsE.block ?_ | refine RunsE.inBlock ?_ | refine RunsE.yes rfl ?_ | refine RunsE.no rfl ?_ | refine RunsE.exit rfl ?_)
        refine RunsE.region ?_
        refine OpsE.ev (Ev.move rfl) rfl ?_
        refine OpsE.ev (Ev.add rfl rfl) rfl ?_
        refine OpsE.ev (Ev.assign rfl) rfl ?_
        refine OpsE.nil ?_
        exact nextK (k + 1) _ _ (by omega) ⟨by omega, by omega, H⟩ ⟨rfl, rfl, rfl, rfl, rfl, congrArg (fun r => some (Value.bool r)) hfin.symm, rfl, trivial⟩
      | false =>
        rw [hwk, Bool.false_or] at hstep
        by_cases hyz : y = (z, h)
        · rw [decide_eq_true hyz, Bool.and_true] at hstep
          by_cases hz0 : 0 ≤ z
          · by_cases hz1 : z < 16
            · have hfin : wasF (k + 1) = true := by rw [hstep, inZ_eq, decide_eq_true hz0, decide_eq_true hz1]; rfl
              repeat (first | refine RunsE.seq ?_ | refine RunsE.skip ?_ | refine RunsE.block ?_ | refine RunsE.inBlock ?_ | refine RunsE.yes rfl ?_ | refine RunsE.no rfl ?_ | refine RunsE.exit rfl ?_)
              refine RunsE.drawS H [] (by kernel_rfl) ?_; (try clear H); intro w H
              refine OpsD.take 0 rfl (by kernel_rfl) (by first | exact H | exact H.drop | exact H.drop.drop | exact H.dropL | exact H.drop.dropL | exact H.dropL.drop | exact H.dropL.dropL | exact H.dropMid) (fun w H => Ev.move rfl) rfl ?_
              refine OpsD.take 1 rfl (by kernel_rfl) (by first | exact H | exact H.drop | exact H.drop.drop | exact H.dropL | exact H.drop.dropL | exact H.dropL.drop | exact H.dropL.dropL | exact H.dropMid) (fun w H => Ev.move rfl) rfl ?_
              first | refine OpsD.takeYes 2 rfl (by kernel_rfl) rfl rfl (by first | exact H | exact H.drop | exact H.drop.drop | exact H.dropL | exact H.drop.dropL | exact H.dropL.drop | exact H.dropL.dropL | exact H.dropMid) (fun w H => Ev.move rfl) rfl ?_ | refine OpsD.takeNo 2 rfl (by kernel_rfl) rfl rfl (by first | exact H | exact H.drop | exact H.drop.drop | exact H.dropL | exact H.drop.dropL | exact H.dropL.drop | exact H.dropL.dropL | exact H.dropMid) rfl ?_ | refine OpsD.takeOff 2 rfl (by kernel_rfl) rfl rfl (by first | exact H | exact H.drop | exact H.drop.drop | exact H.dropL | exact H.drop.dropL | exact H.dropL.drop | exact H.dropL.dropL | exact H.dropMid) rfl ?_
              first | refine OpsD.takeYes 3 rfl (by kernel_rfl) rfl rfl (by first | exact H | exact H.drop | exact H.drop.drop | exact H.dropL | exact H.drop.dropL | exact H.dropL.drop | exact H.dropL.dropL | exact H.dropMid) (fun w H => Ev.move rfl) rfl ?_ | refine OpsD.takeNo 3 rfl (by kernel_rfl) rfl rfl (by first | exact H | exact H.drop | exact H.drop.drop | exact H.dropL | exact H.drop.dropL | exact H.dropL.drop | exact H.dropL.dropL | exact H.dropMid) rfl ?_ | refine OpsD.takeOff 3 rfl (by kernel_rfl) rfl rfl (by first | exact H | exact H.drop | exact H.drop.drop | exact H.dropL | exact H.drop.dropL | exact H.dropL.drop | exact H.dropL.dropL | exact H.dropMid) rfl ?_
              first | refine OpsD.takeYes 4 rfl (by kernel_rfl) rfl rfl (by first | exact H | exact H.drop | exact H.drop.drop | exact H.dropL | exact H.drop.dropL | exact H.dropL.drop | exact H.dropL.dropL | exact H.dropMid) (fun w H => Ev.iaSl (n := 40) (sz := 33) (m := k) (o := ol + k * 33) rfl rfl rfl (by kernel_rfl) (by omega)) rfl ?_ | refine OpsD.takeNo 4 rfl (by kernel_rfl) rfl rfl (by first | exact H | exact H.drop | exact H.drop.drop | exact H.dropL | exact H.drop.dropL | exact H.dropL.drop | exact H.dropL.dropL | exact H.dropMid) rfl ?_ | refine OpsD.takeOff 4 rfl (by kernel_rfl) rfl rfl (by first | exact H | exact H.drop | exact H.drop.drop | exact H.dropL | exact H.drop.dropL | exact H.dropL.drop | exact H.dropL.dropL | exact H.dropMid) rfl ?_
              first | refine OpsD.takeYes 5 rfl (by kernel_rfl) rfl rfl (by first | exact H | exact H.drop | exact H.drop.drop | exact H.dropL | exact H.drop.dropL | exact H.dropL.drop | exact H.dropL.dropL | exact H.dropMid) (fun w H => Ev.loadAgg (vs := gI1 y) H rfl (by rw [List.length_cons, gH_len]; kernel_rfl) (fun j v hj => by rw [add_none]; exact hrdy j v hj)) rfl ?_ | refine OpsD.takeNo 5 rfl (by kernel_rfl) rfl rfl (by first | exact H | exact H.drop | exact H.drop.drop | exact H.dropL | exact H.drop.dropL | exact H.dropL.drop | exact H.dropL.dropL | exact H.dropMid) rfl ?_ | refine OpsD.takeOff 5 rfl (by kernel_rfl) rfl rfl (by first | exact H | exact H.drop | exact H.drop.drop | exact H.dropL | exact H.drop.dropL | exact H.dropL.drop | exact H.dropL.dropL | exact H.dropMid) rfl ?_
              first | refine OpsD.takeYes 6 rfl (by kernel_rfl) rfl rfl (by first | exact H | exact H.drop | exact H.drop.drop | exact H.dropL | exact H.drop.dropL | exact H.dropL.drop | exact H.dropL.dropL | exact H.dropMid) (fun w H => Ev.move rfl) rfl ?_ | refine OpsD.takeNo 6 rfl (by kernel_rfl) rfl rfl (by first | exact H | exact H.drop | exact H.drop.drop | exact H.dropL | exact H.drop.dropL | exact H.dropL.drop | exact H.dropL.dropL | exact H.dropMid) rfl ?_ | refine OpsD.takeOff 6 rfl (by kernel_rfl) rfl rfl (by first | exact H | exact H.drop | exact H.drop.drop | exact H.dropL | exact H.drop.dropL | exact H.dropL.drop | exact H.dropL.dropL | exact H.dropMid) rfl ?_
              first | refine OpsD.takeYes 7 rfl (by kernel_rfl) rfl rfl (by first | exact H | exact H.drop | exact H.drop.drop | exact H.dropL | exact H.drop.dropL | exact H.dropL.drop | exact H.dropL.dropL | exact H.dropMid) (fun w H => Ev.move rfl) rfl ?_ | refine OpsD.takeNo 7 rfl (by kernel_rfl) rfl rfl (by first | exact H | exact H.drop | exact H.drop.drop | exact H.dropL | exact H.drop.dropL | exact H.dropL.drop | exact H.dropL.dropL | exact H.dropMid) rfl ?_ | refine OpsD.takeOff 7 rfl (by kernel_rfl) rfl rfl (by first | exact H | exact H.drop | exact H.drop.drop | exact H.dropL | exact H.drop.dropL | exact H.dropL.drop | exact H.dropL.dropL | exact H.dropMid) rfl ?_
              first | refine OpsD.takeYes 8 rfl (by kernel_rfl) rfl rfl (by first | exact H | exact H.drop | exact H.drop.drop | exact H.dropL | exact H.drop.dropL | exact H.dropL.drop | exact H.dropL.dropL | exact H.dropMid) (fun w H => Ev.iaSl (n := 40) (sz := 33) (m := i) (o := om + i * 33) rfl rfl rfl (by kernel_rfl) (by omega)) rfl ?_ | refine OpsD.takeNo 8 rfl (by kernel_rfl) rfl rfl (by first | exact H | exact H.drop | exact H.drop.drop | exact H.dropL | exact H.drop.dropL | exact H.dropL.drop | exact H.dropL.dropL | exact H.dropMid) rfl ?_ | refine OpsD.takeOff 8 rfl (by kernel_rfl) rfl rfl (by first | exact H | exact H.drop | exact H.drop.drop | exact H.dropL | exact H.drop.dropL | exact H.dropL.drop | exact H.dropL.dropL | exact H.dropMid) rfl ?_
              first | refine OpsD.takeYes 9 rfl (by kernel_rfl) rfl rfl (by first | exact H | exact H.drop | exact H.drop.drop | exact H.dropL | exact H.drop.dropL | exact H.dropL.drop | exact H.dropL.dropL | exact H.dropMid) (fun w H => Ev.loadAgg (vs := gI1 (z, h)) H rfl (by rw [List.length_cons, gH_len]; kernel_rfl) (fun j v hj => by rw [add_none]; exact hrdx j v hj)) rfl ?_ | refine OpsD.takeNo 9 rfl (by kernel_rfl) rfl rfl (by first | exact H | exact H.drop | exact H.drop.drop | exact H.dropL | exact H.drop.dropL | exact H.dropL.drop | exact H.dropL.dropL | exact H.dropMid) rfl ?_ | refine OpsD.takeOff 9 rfl (by kernel_rfl) rfl rfl (by first | exact H | exact H.drop | exact H.drop.drop | exact H.dropL | exact H.drop.dropL | exact H.dropL.drop | exact H.dropL.dropL | exact H.dropMid) rfl ?_
              first | refine OpsD.takeYes 10 rfl (by kernel_rfl) rfl rfl (by first | exact H | exact H.drop | exact H.drop.drop | exact H.dropL | exact H.drop.dropL | exact H.dropL.drop | exact H.dropL.dropL | exact H.dropMid) (fun w H => sgEqR y (z, h) hwy hwx rfl rfl (r := true) (decide_eq_true hyz)) rfl ?_ | refine OpsD.takeNo 10 rfl (by kernel_rfl) rfl rfl (by first | exact H | exact H.drop | exact H.drop.drop | exact H.dropL | exact H.drop.dropL | exact H.dropL.drop | exact H.dropL.dropL | exact H.dropMid) rfl ?_ | refine OpsD.takeOff 10 rfl (by kernel_rfl) rfl rfl (by first | exact H | exact H.drop | exact H.drop.drop | exact H.dropL | exact H.drop.dropL | exact H.dropL.drop | exact H.dropL.dropL | exact H.dropMid) rfl ?_
              first | refine OpsD.takeYes 11 rfl (by kernel_rfl) rfl rfl (by first | exact H | exact H.drop | exact H.drop.drop | exact H.dropL | exact H.drop.dropL | exact H.dropL.drop | exact H.dropL.dropL | exact H.dropMid) (fun w H => Ev.move rfl) rfl ?_ | refine OpsD.takeNo 11 rfl (by kernel_rfl) rfl rfl (by first | exact H | exact H.drop | exact H.drop.drop | exact H.dropL | exact H.drop.dropL | exact H.dropL.drop | exact H.dropL.dropL | exact H.dropMid) rfl ?_ | refine OpsD.takeOff 11 rfl (by kernel_rfl) rfl rfl (by first | exact H | exact H.drop | exact H.drop.drop | exact H.dropL | exact H.drop.dropL | exact H.dropL.drop | exact H.dropL.dropL | exact H.dropMid) rfl ?_
              first | refine OpsD.takeYes 12 rfl (by kernel_rfl) rfl rfl (by first | exact H | exact H.drop | exact H.drop.drop | exact H.dropL | exact H.drop.dropL | exact H.dropL.drop | exact H.dropL.dropL | exact H.dropMid) (fun w H => Ev.move rfl) rfl ?_ | refine OpsD.takeNo 12 rfl (by kernel_rfl) rfl rfl (by first | exact H | exact H.drop | exact H.drop.drop | exact H.dropL | exact H.drop.dropL | exact H.dropL.drop | exact H.dropL.dropL | exact H.dropMid) rfl ?_ | refine OpsD.takeOff 12 rfl (by kernel_rfl) rfl rfl (by first | exact H | exact H.drop | exact H.drop.drop | exact H.dropL | exact H.drop.dropL | exact H.dropL.drop | exact H.dropL.dropL | exact H.dropMid) rfl ?_
              first | refine OpsD.takeYes 13 rfl (by kernel_rfl) rfl rfl (by first | exact H | exact H.drop | exact H.drop.drop | exact H.dropL | exact H.drop.dropL | exact H.dropL.drop | exact H.dropL.dropL | exact H.dropMid) (fun w H => Ev.move rfl) rfl ?_ | refine OpsD.takeNo 13 rfl (by kernel_rfl) rfl rfl (by first | exact H | exact H.drop | exact H.drop.drop | exact H.dropL | exact H.drop.dropL | exact H.dropL.drop | exact H.dropL.dropL | exact H.dropMid) rfl ?_ | refine OpsD.takeOff 13 rfl (by kernel_rfl) rfl rfl (by first | exact H | exact H.drop | exact H.drop.drop | exact H.dropL | exact H.drop.dropL | exact H.dropL.drop | exact H.dropL.dropL | exact H.dropMid) rfl ?_
              first | refine OpsD.takeYes 14 rfl (by kernel_rfl) rfl rfl (by first | exact H | exact H.drop | exact H.drop.drop | exact H.dropL | exact H.drop.dropL | exact H.dropL.drop | exact H.dropL.dropL | exact H.dropMid) (fun w H => Ev.iaSl (n := 40) (sz := 33) (m := i) (o := om + i * 33) rfl rfl rfl (by kernel_rfl) (by omega)) rfl ?_ | refine OpsD.takeNo 14 rfl (by kernel_rfl) rfl rfl (by first | exact H | exact H.drop | exact H.drop.drop | exact H.dropL | exact H.drop.dropL | exact H.dropL.drop | exact H.dropL.dropL | exact H.dropMid) rfl ?_ | refine OpsD.takeOff 14 rfl (by kernel_rfl) rfl rfl (by first | exact H | exact H.drop | exact H.drop.drop | exact H.dropL | exact H.drop.dropL | exact H.dropL.drop | exact H.dropL.dropL | exact H.dropMid) rfl ?_
              first | refine OpsD.takeYes 15 rfl (by kernel_rfl) rfl rfl (by first | exact H | exact H.drop | exact H.drop.drop | exact H.dropL | exact H.drop.dropL | exact H.dropL.drop | exact H.dropL.dropL | exact H.dropMid) (fun w H => Ev.fieldAddr (o := 0) rfl (by kernel_rfl)) rfl ?_ | refine OpsD.takeNo 15 rfl (by kernel_rfl) rfl rfl (by first | exact H | exact H.drop | exact H.drop.drop | exact H.dropL | exact H.drop.dropL | exact H.dropL.drop | exact H.dropL.dropL | exact H.dropMid) rfl ?_ | refine OpsD.takeOff 15 rfl (by kernel_rfl) rfl rfl (by first | exact H | exact H.drop | exact H.drop.drop | exact H.dropL | exact H.drop.dropL | exact H.dropL.drop | exact H.dropL.dropL | exact H.dropMid) rfl ?_
              first | refine OpsD.takeYes 16 rfl (by kernel_rfl) rfl rfl (by first | exact H | exact H.drop | exact H.drop.drop | exact H.dropL | exact H.drop.dropL | exact H.dropL.drop | exact H.dropL.dropL | exact H.dropMid) (fun w H => Ev.load (v := .int .i64 z) H rfl (by kernel_rfl) (hrdx 0 _ rfl)) rfl ?_ | refine OpsD.takeNo 16 rfl (by kernel_rfl) rfl rfl (by first | exact H | exact H.drop | exact H.drop.drop | exact H.dropL | exact H.drop.dropL | exact H.dropL.drop | exact H.dropL.dropL | exact H.dropMid) rfl ?_ | refine OpsD.takeOff 16 rfl (by kernel_rfl) rfl rfl (by first | exact H | exact H.drop | exact H.drop.drop | exact H.dropL | exact H.drop.dropL | exact H.dropL.drop | exact H.dropL.dropL | exact H.dropMid) rfl ?_
              first | refine OpsD.takeYes 17 rfl (by kernel_rfl) rfl rfl (by first | exact H | exact H.drop | exact H.drop.drop | exact H.dropL | exact H.drop.dropL | exact H.dropL.drop | exact H.dropL.dropL | exact H.dropMid) (fun w H => Ev.geq (r := true) rfl rfl (decide_eq_true (by omega))) rfl ?_ | refine OpsD.takeNo 17 rfl (by kernel_rfl) rfl rfl (by first | exact H | exact H.drop | exact H.drop.drop | exact H.dropL | exact H.drop.dropL | exact H.dropL.drop | exact H.dropL.dropL | exact H.dropMid) rfl ?_ | refine OpsD.takeOff 17 rfl (by kernel_rfl) rfl rfl (by first | exact H | exact H.drop | exact H.drop.drop | exact H.dropL | exact H.drop.dropL | exact H.dropL.drop | exact H.dropL.dropL | exact H.dropMid) rfl ?_
              first | refine OpsD.takeYes 18 rfl (by kernel_rfl) rfl rfl (by first | exact H | exact H.drop | exact H.drop.drop | exact H.dropL | exact H.drop.dropL | exact H.dropL.drop | exact H.dropL.dropL | exact H.dropMid) (fun w H => (by first | exact Ev.pickT rfl rfl | exact Ev.pickF rfl rfl)) rfl ?_ | refine OpsD.takeNo 18 rfl (by kernel_rfl) rfl rfl (by first | exact H | exact H.drop | exact H.drop.drop | exact H.dropL | exact H.drop.dropL | exact H.dropL.drop | exact H.dropL.dropL | exact H.dropMid) rfl ?_ | refine OpsD.takeOff 18 rfl (by kernel_rfl) rfl rfl (by first | exact H | exact H.drop | exact H.drop.drop | exact H.dropL | exact H.drop.dropL | exact H.dropL.drop | exact H.dropL.dropL | exact H.dropMid) rfl ?_
              first | refine OpsD.takeYes 19 rfl (by kernel_rfl) rfl rfl (by first | exact H | exact H.drop | exact H.drop.drop | exact H.dropL | exact H.drop.dropL | exact H.dropL.drop | exact H.dropL.dropL | exact H.dropMid) (fun w H => Ev.move rfl) rfl ?_ | refine OpsD.takeNo 19 rfl (by kernel_rfl) rfl rfl (by first | exact H | exact H.drop | exact H.drop.drop | exact H.dropL | exact H.drop.dropL | exact H.dropL.drop | exact H.dropL.dropL | exact H.dropMid) rfl ?_ | refine OpsD.takeOff 19 rfl (by kernel_rfl) rfl rfl (by first | exact H | exact H.drop | exact H.drop.drop | exact H.dropL | exact H.drop.dropL | exact H.dropL.drop | exact H.dropL.dropL | exact H.dropMid) rfl ?_
              first | refine OpsD.takeYes 20 rfl (by kernel_rfl) rfl rfl (by first | exact H | exact H.drop | exact H.drop.drop | exact H.dropL | exact H.drop.dropL | exact H.dropL.drop | exact H.dropL.dropL | exact H.dropMid) (fun w H => Ev.move rfl) rfl ?_ | refine OpsD.takeNo 20 rfl (by kernel_rfl) rfl rfl (by first | exact H | exact H.drop | exact H.drop.drop | exact H.dropL | exact H.drop.dropL | exact H.dropL.drop | exact H.dropL.dropL | exact H.dropMid) rfl ?_ | refine OpsD.takeOff 20 rfl (by kernel_rfl) rfl rfl (by first | exact H | exact H.drop | exact H.drop.drop | exact H.dropL | exact H.drop.dropL | exact H.dropL.drop | exact H.dropL.dropL | exact H.dropMid) rfl ?_
              first | refine OpsD.takeYes 21 rfl (by kernel_rfl) rfl rfl (by first | exact H | exact H.drop | exact H.drop.drop | exact H.dropL | exact H.drop.dropL | exact H.dropL.drop | exact H.dropL.dropL | exact H.dropMid) (fun w H => Ev.move rfl) rfl ?_ | refine OpsD.takeNo 21 rfl (by kernel_rfl) rfl rfl (by first | exact H | exact H.drop | exact H.drop.drop | exact H.dropL | exact H.drop.dropL | exact H.dropL.drop | exact H.dropL.dropL | exact H.dropMid) rfl ?_ | refine OpsD.takeOff 21 rfl (by kernel_rfl) rfl rfl (by first | exact H | exact H.drop | exact H.drop.drop | exact H.dropL | exact H.drop.dropL | exact H.dropL.drop | exact H.dropL.dropL | exact H.dropMid) rfl ?_
              first | refine OpsD.takeYes 22 rfl (by kernel_rfl) rfl rfl (by first | exact H | exact H.drop | exact H.drop.drop | exact H.dropL | exact H.drop.dropL | exact H.dropL.drop | exact H.dropL.dropL | exact H.dropMid) (fun w H => Ev.iaSl (n := 40) (sz := 33) (m := i) (o := om + i * 33) rfl rfl rfl (by kernel_rfl) (by omega)) rfl ?_ | refine OpsD.takeNo 22 rfl (by kernel_rfl) rfl rfl (by first | exact H | exact H.drop | exact H.drop.drop | exact H.dropL | exact H.drop.dropL | exact H.dropL.drop | exact H.dropL.dropL | exact H.dropMid) rfl ?_ | refine OpsD.takeOff 22 rfl (by kernel_rfl) rfl rfl (by first | exact H | exact H.drop | exact H.drop.drop | exact H.dropL | exact H.drop.dropL | exact H.dropL.drop | exact H.dropL.dropL | exact H.dropMid) rfl ?_
              first | refine OpsD.takeYes 23 rfl (by kernel_rfl) rfl rfl (by first | exact H | exact H.drop | exact H.drop.drop | exact H.dropL | exact H.drop.dropL | exact H.dropL.drop | exact H.dropL.dropL | exact H.dropMid) (fun w H => Ev.fieldAddr (o := 0) rfl (by kernel_rfl)) rfl ?_ | refine OpsD.takeNo 23 rfl (by kernel_rfl) rfl rfl (by first | exact H | exact H.drop | exact H.drop.drop | exact H.dropL | exact H.drop.dropL | exact H.dropL.drop | exact H.dropL.dropL | exact H.dropMid) rfl ?_ | refine OpsD.takeOff 23 rfl (by kernel_rfl) rfl rfl (by first | exact H | exact H.drop | exact H.drop.drop | exact H.dropL | exact H.drop.dropL | exact H.dropL.drop | exact H.dropL.dropL | exact H.dropMid) rfl ?_
              first | refine OpsD.takeYes 24 rfl (by kernel_rfl) rfl rfl (by first | exact H | exact H.drop | exact H.drop.drop | exact H.dropL | exact H.drop.dropL | exact H.dropL.drop | exact H.dropL.dropL | exact H.dropMid) (fun w H => Ev.load (v := .int .i64 z) H rfl (by kernel_rfl) (hrdx 0 _ rfl)) rfl ?_ | refine OpsD.takeNo 24 rfl (by kernel_rfl) rfl rfl (by first | exact H | exact H.drop | exact H.drop.drop | exact H.dropL | exact H.drop.dropL | exact H.dropL.drop | exact H.dropL.dropL | exact H.dropMid) rfl ?_ | refine OpsD.takeOff 24 rfl (by kernel_rfl) rfl rfl (by first | exact H | exact H.drop | exact H.drop.drop | exact H.dropL | exact H.drop.dropL | exact H.dropL.drop | exact H.dropL.dropL | exact H.dropMid) rfl ?_
              first | refine OpsD.takeYes 25 rfl (by kernel_rfl) rfl rfl (by first | exact H | exact H.drop | exact H.drop.drop | exact H.dropL | exact H.drop.dropL | exact H.dropL.drop | exact H.dropL.dropL | exact H.dropMid) (fun w H => Ev.lss (r := true) rfl rfl (decide_eq_true hz1)) rfl ?_ | refine OpsD.takeNo 25 rfl (by kernel_rfl) rfl rfl (by first | exact H | exact H.drop | exact H.drop.drop | exact H.dropL | exact H.drop.dropL | exact H.dropL.drop | exact H.dropL.dropL | exact H.dropMid) rfl ?_ | refine OpsD.takeOff 25 rfl (by kernel_rfl) rfl rfl (by first | exact H | exact H.drop | exact H.drop.drop | exact H.dropL | exact H.drop.dropL | exact H.dropL.drop | exact H.dropL.dropL | exact H.dropMid) rfl ?_
              first | refine OpsD.takeYes 26 rfl (by kernel_rfl) rfl rfl (by first | exact H | exact H.drop | exact H.drop.drop | exact H.dropL | exact H.drop.dropL | exact H.dropL.drop | exact H.dropL.dropL | exact H.dropMid) (fun w H => (by first | exact Ev.pickT rfl rfl | exact Ev.pickF rfl rfl)) rfl ?_ | refine OpsD.takeNo 26 rfl (by kernel_rfl) rfl rfl (by first | exact H | exact H.drop | exact H.drop.drop | exact H.dropL | exact H.drop.dropL | exact H.dropL.drop | exact H.dropL.dropL | exact H.dropMid) rfl ?_ | refine OpsD.takeOff 26 rfl (by kernel_rfl) rfl rfl (by first | exact H | exact H.drop | exact H.drop.drop | exact H.dropL | exact H.drop.dropL | exact H.dropL.drop | exact H.dropL.dropL | exact H.dropMid) rfl ?_
              refine OpsD.take 27 rfl (by kernel_rfl) (by first | exact H | exact H.drop | exact H.drop.drop | exact H.dropL | exact H.drop.dropL | exact H.dropL.drop | exact H.dropL.dropL | exact H.dropMid) (fun w H => (by first | exact Ev.pickT rfl rfl | exact Ev.pickF rfl rfl)) rfl ?_
              refine OpsD.take 28 rfl (by kernel_rfl) (by first | exact H | exact H.drop | exact H.drop.drop | exact H.dropL | exact H.drop.dropL | exact H.dropL.drop | exact H.dropL.dropL | exact H.dropMid) (fun w H => Ev.assign rfl) rfl ?_
              refine OpsD.done (by kernel_rfl) ?_
              refine RunsE.inBlock ?_
              repeat (first | refine RunsE.seq ?_ | refine RunsE.skip ?_ | refine RunsE.block ?_ | refine RunsE.inBlock ?_ | refine RunsE.yes rfl ?_ | refine RunsE.no rfl ?_ | refine RunsE.exit rfl ?_)
              refine RunsE.region ?_
              refine OpsE.ev (Ev.move rfl) rfl ?_
              refine OpsE.ev (Ev.add rfl rfl) rfl ?_
              refine OpsE.ev (Ev.assign rfl) rfl ?_
              refine OpsE.nil ?_
              exact nextK (k + 1) _ _ (by omega) ⟨by omega, by omega, H⟩ ⟨rfl, rfl, rfl, rfl, rfl, congrArg (fun r => some (Value.bool r)) hfin.symm, rfl, trivial⟩
            · have hfin : wasF (k + 1) = false := by rw [hstep, inZ_eq, decide_eq_false hz1, Bool.and_false]
              repeat (first | refine RunsE.seq ?_ | refine RunsE.skip ?_ | refine RunsE.block ?_ | refine RunsE.inBlock ?_ | refine RunsE.yes rfl ?_ | refine RunsE.no rfl ?_ | refine RunsE.exit rfl ?_)
              refine RunsE.drawS H [] (by kernel_rfl) ?_; (try clear H); intro w H
              refine OpsD.take 0 rfl (by kernel_rfl) (by first | exact H | exact H.drop | exact H.drop.drop | exact H.dropL | exact H.drop.dropL | exact H.dropL.drop | exact H.dropL.dropL | exact H.dropMid) (fun w H => Ev.move rfl) rfl ?_
              refine OpsD.take 1 rfl (by kernel_rfl) (by first | exact H | exact H.drop | exact H.drop.drop | exact H.dropL | exact H.drop.dropL | exact H.dropL.drop | exact H.dropL.dropL | exact H.dropMid) (fun w H => Ev.move rfl) rfl ?_
              first | refine OpsD.takeYes 2 rfl (by kernel_rfl) rfl rfl (by first | exact H | exact H.drop | exact H.drop.drop | exact H.dropL | exact H.drop.dropL | exact H.dropL.drop | exact H.dropL.dropL | exact H.dropMid) (fun w H => Ev.move rfl) rfl ?_ | refine OpsD.takeNo 2 rfl (by kernel_rfl) rfl rfl (by first | exact H | exact H.drop | exact H.drop.drop | exact H.dropL | exact H.drop.dropL | exact H.dropL.drop | exact H.dropL.dropL | exact H.dropMid) rfl ?_ | refine OpsD.takeOff 2 rfl (by kernel_rfl) rfl rfl (by first | exact H | exact H.drop | exact H.drop.drop | exact H.dropL | exact H.drop.dropL | exact H.dropL.drop | exact H.dropL.dropL | exact H.dropMid) rfl ?_
              first | refine OpsD.takeYes 3 rfl (by kernel_rfl) rfl rfl (by first | exact H | exact H.drop | exact H.drop.drop | exact H.dropL | exact H.drop.dropL | exact H.dropL.drop | exact H.dropL.dropL | exact H.dropMid) (fun w H => Ev.move rfl) rfl ?_ | refine OpsD.takeNo 3 rfl (by kernel_rfl) rfl rfl (by first | exact H | exact H.drop | exact H.drop.drop | exact H.dropL | exact H.drop.dropL | exact H.dropL.drop | exact H.dropL.dropL | exact H.dropMid) rfl ?_ | refine OpsD.takeOff 3 rfl (by kernel_rfl) rfl rfl (by first | exact H | exact H.drop | exact H.drop.drop | exact H.dropL | exact H.drop.dropL | exact H.dropL.drop | exact H.dropL.dropL | exact H.dropMid) rfl ?_
              first | refine OpsD.takeYes 4 rfl (by kernel_rfl) rfl rfl (by first | exact H | exact H.drop | exact H.drop.drop | exact H.dropL | exact H.drop.dropL | exact H.dropL.drop | exact H.dropL.dropL | exact H.dropMid) (fun w H => Ev.iaSl (n := 40) (sz := 33) (m := k) (o := ol + k * 33) rfl rfl rfl (by kernel_rfl) (by omega)) rfl ?_ | refine OpsD.takeNo 4 rfl (by kernel_rfl) rfl rfl (by first | exact H | exact H.drop | exact H.drop.drop | exact H.dropL | exact H.drop.dropL | exact H.dropL.drop | exact H.dropL.dropL | exact H.dropMid) rfl ?_ | refine OpsD.takeOff 4 rfl (by kernel_rfl) rfl rfl (by first | exact H | exact H.drop | exact H.drop.drop | exact H.dropL | exact H.drop.dropL | exact H.dropL.drop | exact H.dropL.dropL | exact H.dropMid) rfl ?_
              first | refine OpsD.takeYes 5 rfl (by kernel_rfl) rfl rfl (by first | exact H | exact H.drop | exact H.drop.drop | exact H.dropL | exact H.drop.dropL | exact H.dropL.drop | exact H.dropL.dropL | exact H.dropMid) (fun w H => Ev.loadAgg (vs := gI1 y) H rfl (by rw [List.length_cons, gH_len]; kernel_rfl) (fun j v hj => by rw [add_none]; exact hrdy j v hj)) rfl ?_ | refine OpsD.takeNo 5 rfl (by kernel_rfl) rfl rfl (by first | exact H | exact H.drop | exact H.drop.drop | exact H.dropL | exact H.drop.dropL | exact H.dropL.drop | exact H.dropL.dropL | exact H.dropMid) rfl ?_ | refine OpsD.takeOff 5 rfl (by kernel_rfl) rfl rfl (by first | exact H | exact H.drop | exact H.drop.drop | exact H.dropL | exact H.drop.dropL | exact H.dropL.drop | exact H.dropL.dropL | exact H.dropMid) rfl ?_
              first | refine OpsD.takeYes 6 rfl (by kernel_rfl) rfl rfl (by first | exact H | exact H.drop | exact H.drop.drop | exact H.dropL | exact H.drop.dropL | exact H.dropL.drop | exact H.dropL.dropL | exact H.dropMid) (fun w H => Ev.move rfl) rfl ?_ | refine OpsD.takeNo 6 rfl (by kernel_rfl) rfl rfl (by first | exact H | exact H.drop | exact H.drop.drop | exact H.dropL | exact H.drop.dropL | exact H.dropL.drop | exact H.dropL.dropL | exact H.dropMid) rfl ?_ | refine OpsD.takeOff 6 rfl (by kernel_rfl) rfl rfl (by first | exact H | exact H.drop | exact H.drop.drop | exact H.dropL | exact H.drop.dropL | exact H.dropL.drop | exact H.dropL.dropL | exact H.dropMid) rfl ?_
              first | refine OpsD.takeYes 7 rfl (by kernel_rfl) rfl rfl (by first | exact H | exact H.drop | exact H.drop.drop | exact H.dropL | exact H.drop.dropL | exact H.dropL.drop | exact H.dropL.dropL | exact H.dropMid) (fun w H => Ev.move rfl) rfl ?_ | refine OpsD.takeNo 7 rfl (by kernel_rfl) rfl rfl (by first | exact H | exact H.drop | exact H.drop.drop | exact H.dropL | exact H.drop.dropL | exact H.dropL.drop | exact H.dropL.dropL | exact H.dropMid) rfl ?_ | refine OpsD.takeOff 7 rfl (by kernel_rfl) rfl rfl (by first | exact H | exact H.drop | exact H.drop.drop | exact H.dropL | exact H.drop.dropL | exact H.dropL.drop | exact H.dropL.dropL | exact H.dropMid) rfl ?_
              first | refine OpsD.takeYes 8 rfl (by kernel_rfl) rfl rfl (by first | exact H | exact H.drop | exact H.drop.drop | exact H.dropL | exact H.drop.dropL | exact H.dropL.drop | exact H.dropL.dropL | exact H.dropMid) (fun w H => Ev.iaSl (n := 40) (sz := 33) (m := i) (o := om + i * 33) rfl rfl rfl (by kernel_rfl) (by omega)) rfl ?_ | refine OpsD.takeNo 8 rfl (by kernel_rfl) rfl rfl (by first | exact H | exact H.drop | exact H.drop.drop | exact H.dropL | exact H.drop.dropL | exact H.dropL.drop | exact H.dropL.dropL | exact H.dropMid) rfl ?_ | refine OpsD.takeOff 8 rfl (by kernel_rfl) rfl rfl (by first | exact H | exact H.drop | exact H.drop.drop | exact H.dropL | exact H.drop.dropL | exact H.dropL.drop | exact H.dropL.dropL | exact H.dropMid) rfl ?_
              first | refine OpsD.takeYes 9 rfl (by kernel_rfl) rfl rfl (by first | exact H | exact H.drop | exact H.drop.drop | exact H.dropL | exact H.drop.dropL | exact H.dropL.drop | exact H.dropL.dropL | exact H.dropMid) (fun w H => Ev.loadAgg (vs := gI1 (z, h)) H rfl (by rw [List.length_cons, gH_len]; kernel_rfl) (fun j v hj => by rw [add_none]; exact hrdx j v hj)) rfl ?_ | refine OpsD.takeNo 9 rfl (by kernel_rfl) rfl rfl (by first | exact H | exact H.drop | exact H.drop.drop | exact H.dropL | exact H.drop.dropL | exact H.dropL.drop | exact H.dropL.dropL | exact H.dropMid) rfl ?_ | refine OpsD.takeOff 9 rfl (by kernel_rfl) rfl rfl (by first | exact H | exact H.drop | exact H.drop.drop | exact H.dropL | exact H.drop.dropL | exact H.dropL.drop | exact H.dropL.dropL | exact H.dropMid) rfl ?_
              first | refine OpsD.takeYes 10 rfl (by kernel_rfl) rfl rfl (by first | exact H | exact H.drop | exact H.drop.drop | exact H.dropL | exact H.drop.dropL | exact H.dropL.drop | exact H.dropL.dropL | exact H.dropMid) (fun w H => sgEqR y (z, h) hwy hwx rfl rfl (r := true) (decide_eq_true hyz)) rfl ?_ | refine OpsD.takeNo 10 rfl (by kernel_rfl) rfl rfl (by first | exact H | exact H.drop | exact H.drop.drop | exact H.dropL | exact H.drop.dropL | exact H.dropL.drop | exact H.dropL.dropL | exact H.dropMid) rfl ?_ | refine OpsD.takeOff 10 rfl (by kernel_rfl) rfl rfl (by first | exact H | exact H.drop | exact H.drop.drop | exact H.dropL | exact H.drop.dropL | exact H.dropL.drop | exact H.dropL.dropL | exact H.dropMid) rfl ?_
              first | refine OpsD.takeYes 11 rfl (by kernel_rfl) rfl rfl (by first | exact H | exact H.drop | exact H.drop.drop | exact H.dropL | exact H.drop.dropL | exact H.dropL.drop | exact H.dropL.dropL | exact H.dropMid) (fun w H => Ev.move rfl) rfl ?_ | refine OpsD.takeNo 11 rfl (by kernel_rfl) rfl rfl (by first | exact H | exact H.drop | exact H.drop.drop | exact H.dropL | exact H.drop.dropL | exact H.dropL.drop | exact H.dropL.dropL | exact H.dropMid) rfl ?_ | refine OpsD.takeOff 11 rfl (by kernel_rfl) rfl rfl (by first | exact H | exact H.drop | exact H.drop.drop | exact H.dropL | exact H.drop.dropL | exact H.dropL.drop | exact H.dropL.dropL | exact H.dropMid) rfl ?_
              first | refine OpsD.takeYes 12 rfl (by kernel_rfl) rfl rfl (by first | exact H | exact H.drop | exact H.drop.drop | exact H.dropL | exact H.drop.dropL | exact H.dropL.drop | exact H.dropL.dropL | exact H.dropMid) (fun w H => Ev.move rfl) rfl ?_ | refine OpsD.takeNo 12 rfl (by kernel_rfl) rfl rfl (by first | exact H | exact H.drop | exact H.drop.drop | exact H.dropL | exact H.drop.dropL | exact H.dropL.drop | exact H.dropL.dropL | exact H.dropMid) rfl ?_ | refine OpsD.takeOff 12 rfl (by kernel_rfl) rfl rfl (by first | exact H | exact H.drop | exact H.drop.drop | exact H.dropL | exact H.drop.dropL | exact H.dropL.drop | exact H.dropL.dropL | exact H.dropMid) rfl ?_
              first | refine OpsD.takeYes 13 rfl (by kernel_rfl) rfl rfl (by first | exact H | exact H.drop | exact H.drop.drop | exact H.dropL | exact H.drop.dropL | exact H.dropL.drop | exact H.dropL.dropL | exact H.dropMid) (fun w H => Ev.move rfl) rfl ?_ | refine OpsD.takeNo 13 rfl (by kernel_rfl) rfl rfl (by first | exact H | exact H.drop | exact H.drop.drop | exact H.dropL | exact H.drop.dropL | exact H.dropL.drop | exact H.dropL.dropL | exact H.dropMid) rfl ?_ | refine OpsD.takeOff 13 rfl (by kernel_rfl) rfl rfl (by first | exact H | exact H.drop | exact H.drop.drop | exact H.dropL | exact H.drop.dropL | exact H.dropL.drop | exact H.dropL.dropL | exact H.dropMid) rfl ?_
              first | refine OpsD.takeYes 14 rfl (by kernel_rfl) rfl rfl (by first | exact H | exact H.drop | exact H.drop.drop | exact H.dropL | exact H.drop.dropL | exact H.dropL.drop | exact H.dropL.dropL | exact H.dropMid) (fun w H => Ev.iaSl (n := 40) (sz := 33) (m := i) (o := om + i * 33) rfl rfl rfl (by kernel_rfl) (by omega)) rfl ?_ | refine OpsD.takeNo 14 rfl (by kernel_rfl) rfl rfl (by first | exact H | exact H.drop | exact H.drop.drop | exact H.dropL | exact H.drop.dropL | exact H.dropL.drop | exact H.dropL.dropL | exact H.dropMid) rfl ?_ | refine OpsD.takeOff 14 rfl (by kernel_rfl) rfl rfl (by first | exact H | exact H.drop | exact H.drop.drop | exact H.dropL | exact H.drop.dropL | exact H.dropL.drop | exact H.dropL.dropL | exact H.dropMid) rfl ?_
              first | refine OpsD.takeYes 15 rfl (by kernel_rfl) rfl rfl (by first | exact H | exact H.drop | exact H.drop.drop | exact H.dropL | exact H.drop.dropL | exact H.dropL.drop | exact H.dropL.dropL | exact H.dropMid) (fun w H => Ev.fieldAddr (o := 0) rfl (by kernel_rfl)) rfl ?_ | refine OpsD.takeNo 15 rfl (by kernel_rfl) rfl rfl (by first | exact H | exact H.drop | exact H.drop.drop | exact H.dropL | exact H.drop.dropL | exact H.dropL.drop | exact H.dropL.dropL | exact H.dropMid) rfl ?_ | refine OpsD.takeOff 15 rfl (by kernel_rfl) rfl rfl (by first | exact H | exact H.drop | exact H.drop.drop | exact H.dropL | exact H.drop.dropL | exact H.dropL.drop | exact H.dropL.dropL | exact H.dropMid) rfl ?_
              first | refine OpsD.takeYes 16 rfl (by kernel_rfl) rfl rfl (by first | exact H | exact H.drop | exact H.drop.drop | exact H.dropL | exact H.drop.dropL | exact H.dropL.drop | exact H.dropL.dropL | exact H.dropMid) (fun w H => Ev.load (v := .int .i64 z) H rfl (by kernel_rfl) (hrdx 0 _ rfl)) rfl ?_ | refine OpsD.takeNo 16 rfl (by kernel_rfl) rfl rfl (by first | exact H | exact H.drop | exact H.drop.drop | exact H.dropL | exact H.drop.dropL | exact H.dropL.drop | exact H.dropL.dropL | exact H.dropMid) rfl ?_ | refine OpsD.takeOff 16 rfl (by kernel_rfl) rfl rfl (by first | exact H | exact H.drop | exact H.drop.drop | exact H.dropL | exact H.drop.dropL | exact H.dropL.drop | exact H.dropL.dropL | exact H.dropMid) rfl ?_
              first | refine OpsD.takeYes 17 rfl (by kernel_rfl) rfl rfl (by first | exact H | exact H.drop | exact H.drop.drop | exact H.dropL | exact H.drop.dropL | exact H.dropL.drop | exact H.dropL.dropL | exact H.dropMid) (fun w H => Ev.geq (r := true) rfl rfl (decide_eq_true (by omega))) rfl ?_ | refine OpsD.takeNo 17 rfl (by kernel_rfl) rfl rfl (by first | exact H | exact H.drop | exact H.drop.drop | exact H.dropL | exact H.drop.dropL | exact H.dropL.drop | exact H.dropL.dropL | exact H.dropMid) rfl ?_ | refine OpsD.takeOff 17 rfl (by kernel_rfl) rfl rfl (by first | exact H | exact H.drop | exact H.drop.drop | exact H.dropL | exact H.drop.dropL | exact H.dropL.drop | exact H.dropL.dropL | exact H.dropMid) rfl ?_
              first | refine OpsD.takeYes 18 rfl (by kernel_rfl) rfl rfl (by first | exact H | exact H.drop | exact H.drop.drop | exact H.dropL | exact H.drop.dropL | exact H.dropL.drop | exact H.dropL.dropL | exact H.dropMid) (fun w H => (by first | exact Ev.pickT rfl rfl | exact Ev.pickF rfl rfl)) rfl ?_ | refine OpsD.takeNo 18 rfl (by kernel_rfl) rfl rfl (by first | exact H | exact H.drop | exact H.drop.drop | exact H.dropL | exact H.drop.dropL | exact H.dropL.drop | exact H.dropL.dropL | exact H.dropMid) rfl ?_ | refine OpsD.takeOff 18 rfl (by kernel_rfl) rfl rfl (by first | exact H | exact H.drop | exact H.drop.drop | exact H.dropL | exact H.drop.dropL | exact H.dropL.drop | exact H.dropL.dropL | exact H.dropMid) rfl ?_
              first | refine OpsD.takeYes 19 rfl (by kernel_rfl) rfl rfl (by first | exact H | exact H.drop | exact H.drop.drop | exact H.dropL | exact H.drop.dropL | exact H.dropL.drop | exact H.dropL.dropL | exact H.dropMid) (fun w H => Ev.move rfl) rfl ?_ | refine OpsD.takeNo 19 rfl (by kernel_rfl) rfl rfl (by first | exact H | exact H.drop | exact H.drop.drop | exact H.dropL | exact H.drop.dropL | exact H.dropL.drop | exact H.dropL.dropL | exact H.dropMid) rfl ?_ | refine OpsD.takeOff 19 rfl (by kernel_rfl) rfl rfl (by first | exact H | exact H.drop | exact H.drop.drop | exact H.dropL | exact H.drop.dropL | exact H.dropL.drop | exact H.dropL.dropL | exact H.dropMid) rfl ?_
              first | refine OpsD.takeYes 20 rfl (by kernel_rfl) rfl rfl (by first | exact H | exact H.drop | exact H.drop.drop | exact H.dropL | exact H.drop.dropL | exact H.dropL.drop | exact H.dropL.dropL | exact H.dropMid) (fun w H => Ev.move rfl) rfl ?_ | refine OpsD.takeNo 20 rfl (by kernel_rfl) rfl rfl (by first | exact H | exact H.drop | exact H.drop.drop | exact H.dropL | exact H.drop.dropL | exact H.dropL.drop | exact H.dropL.dropL | exact H.dropMid) rfl ?_ | refine OpsD.takeOff 20 rfl (by kernel_rfl) rfl rfl (by first | exact H | exact H.drop | exact H.drop.drop | exact H.dropL | exact H.drop.dropL | exact H.dropL.drop | exact H.dropL.dropL | exact H.dropMid) rfl ?_
              first | refine OpsD.takeYes 21 rfl (by kernel_rfl) rfl rfl (by first | exact H | exact H.drop | exact H.drop.drop | exact H.dropL | exact H.drop.dropL | exact H.dropL.drop | exact H.dropL.dropL | exact H.dropMid) (fun w H => Ev.move rfl) rfl ?_ | refine OpsD.takeNo 21 rfl (by kernel_rfl) rfl rfl (by first | exact H | exact H.drop | exact H.drop.drop | exact H.dropL | exact H.drop.dropL | exact H.dropL.drop | exact H.dropL.dropL | exact H.dropMid) rfl ?_ | refine OpsD.takeOff 21 rfl (by kernel_rfl) rfl rfl (by first | exact H | exact H.drop | exact H.drop.drop | exact H.dropL | exact H.drop.dropL | exact H.dropL.drop | exact H.dropL.dropL | exact H.dropMid) rfl ?_
              first | refine OpsD.takeYes 22 rfl (by kernel_rfl) rfl rfl (by first | exact H | exact H.drop | exact H.drop.drop | exact H.dropL | exact H.drop.dropL | exact H.dropL.drop | exact H.dropL.dropL | exact H.dropMid) (fun w H => Ev.iaSl (n := 40) (sz := 33) (m := i) (o := om + i * 33) rfl rfl rfl (by kernel_rfl) (by omega)) rfl ?_ | refine OpsD.takeNo 22 rfl (by kernel_rfl) rfl rfl (by first | exact H | exact H.drop | exact H.drop.drop | exact H.dropL | exact H.drop.dropL | exact H.dropL.drop | exact H.dropL.dropL | exact H.dropMid) rfl ?_ | refine OpsD.takeOff 22 rfl (by kernel_rfl) rfl rfl (by first | exact H | exact H.drop | exact H.drop.drop | exact H.dropL | exact H.drop.dropL | exact H.dropL.drop | exact H.dropL.dropL | exact H.dropMid) rfl ?_
              first | refine OpsD.takeYes 23 rfl (by kernel_rfl) rfl rfl (by first | exact H | exact H.drop | exact H.drop.drop | exact H.dropL | exact H.drop.dropL | exact H.dropL.drop | exact H.dropL.dropL | exact H.dropMid) (fun w H => Ev.fieldAddr (o := 0) rfl (by kernel_rfl)) rfl ?_ | refine OpsD.takeNo 23 rfl (by kernel_rfl) rfl rfl (by first | exact H | exact H.drop | exact H.drop.drop | exact H.dropL | exact H.drop.dropL | exact H.dropL.drop | exact H.dropL.dropL | exact H.dropMid) rfl ?_ | refine OpsD.takeOff 23 rfl (by kernel_rfl) rfl rfl (by first | exact H | exact H.drop | exact H.drop.drop | exact H.dropL | exact H.drop.dropL | exact H.dropL.drop | exact H.dropL.dropL | exact H.dropMid) rfl ?_
              first | refine OpsD.takeYes 24 rfl (by kernel_rfl) rfl rfl (by first | exact H | exact H.drop | exact H.drop.drop | exact H.dropL | exact H.drop.dropL | exact H.dropL.drop | exact H.dropL.dropL | exact H.dropMid) (fun w H => Ev.load (v := .int .i64 z) H rfl (by kernel_rfl) (hrdx 0 _ rfl)) rfl ?_ | refine OpsD.takeNo 24 rfl (by kernel_rfl) rfl rfl (by first | exact H | exact H.drop | exact H.drop.drop | exact H.dropL | exact H.drop.dropL | exact H.dropL.drop | exact H.dropL.dropL | exact H.dropMid) rfl ?_ | refine OpsD.takeOff 24 rfl (by kernel_rfl) rfl rfl (by first | exact H | exact H.drop | exact H.drop.drop | exact H.dropL | exact H.drop.dropL | exact H.dropL.drop | exact H.dropL.dropL | exact H.dropMid) rfl ?_
              first | refine OpsD.takeYes 25 rfl (by kernel_rfl) rfl rfl (by first | exact H | exact H.drop | exact H.drop.drop | exact H.dropL | exact H.drop.dropL | exact H.dropL.drop | exact H.dropL.dropL | exact H.dropMid) (fun w H => Ev.lss (r := false) rfl rfl (decide_eq_false hz1)) rfl ?_ | refine OpsD.takeNo 25 rfl (by kernel_rfl) rfl rfl (by first | exact H | exact H.drop | exact H.drop.drop | exact H.dropL | exact H.drop.dropL | exact H.dropL.drop | exact H.dropL.dropL | exact H.dropMid) rfl ?_ | refine OpsD.takeOff 25 rfl (by kernel_rfl) rfl rfl (by first | exact H | exact H.drop | exact H.drop.drop | exact H.dropL | exact H.drop.dropL | exact H.dropL.drop | exact H.dropL.dropL | exact H.dropMid) rfl ?_
              first | refine OpsD.takeYes 26 rfl (by kernel_rfl) rfl rfl (by first | exact H | exact H.drop | exact H.drop.drop | exact H.dropL | exact H.drop.dropL | exact H.dropL.drop | exact H.dropL.dropL | exact H.dropMid) (fun w H => (by first | exact Ev.pickT rfl rfl | exact Ev.pickF rfl rfl)) rfl ?_ | refine OpsD.takeNo 26 rfl (by kernel_rfl) rfl rfl (by first | exact H | exact H.drop | exact H.drop.drop | exact H.dropL | exact H.drop.dropL | exact H.dropL.drop | exact H.dropL.dropL | exact H.dropMid) rfl ?_ | refine OpsD.takeOff 26 rfl (by kernel_rfl) rfl rfl (by first | exact H | exact H.drop | exact H.drop.drop | exact H.dropL | exact H.drop.dropL | exact H.dropL.drop | exact H.dropL.dropL | exact H.dropMid) rfl ?_
              refine OpsD.take 27 rfl (by kernel_rfl) (by first | exact H | exact H.drop | exact H.drop.drop | exact H.dropL | exact H.drop.dropL | exact H.dropL.drop | exact H.dropL.dropL | exact H.dropMid) (fun w H => (by first | exact Ev.pickT rfl rfl | exact Ev.pickF rfl rfl)) rfl ?_
              refine OpsD.take 28 rfl (by kernel_rfl) (by first | exact H | exact H.drop | exact H.drop.drop | exact H.dropL | exact H.drop.dropL | exact H.dropL.drop | exact H.dropL.dropL | exact H.dropMid) (fun w H => Ev.assign rfl) rfl ?_
              refine OpsD.done (by kernel_rfl) ?_
              refine RunsE.inBlock ?_
              repeat (first | refine RunsE.seq ?_ | refine RunsE.skip ?_ | refine RunsE.block ?_ | refine RunsE.inBlock ?_ | refine RunsE.yes rfl ?_ | refine RunsE.no rfl ?_ | refine RunsE.exit rfl ?_)
              refine RunsE.region ?_
              refine OpsE.ev (Ev.move rfl) rfl ?_
              refine OpsE.ev (Ev.add rfl rfl) rfl ?_
              refine OpsE.ev (Ev.assign rfl) rfl ?_
              refine OpsE.nil ?_
              exact nextK (k + 1) _ _ (by omega) ⟨by omega, by omega, H⟩ ⟨rfl, rfl, rfl, rfl, rfl, congrArg (fun r => some (Value.bool r)) hfin.symm, rfl, trivial⟩
          · have hfin : wasF (k + 1) = false := by rw [hstep, inZ_eq, decide_eq_false hz0, Bool.false_and]
            repeat (first | refine RunsE.seq ?_ | refine RunsE.skip ?_ | refine RunsE.block ?_ | refine RunsE.inBlock ?_ | refine RunsE.yes rfl ?_ | refine RunsE.no rfl ?_ | refine RunsE.exit rfl ?_)
            refine RunsE.drawS H [] (by kernel_rfl) ?_; (try clear H); intro w H
            refine OpsD.take 0 rfl (by kernel_rfl) (by first | exact H | exact H.drop | exact H.drop.drop | exact H.dropL | exact H.drop.dropL | exact H.dropL.drop | exact H.dropL.dropL | exact H.dropMid) (fun w H => Ev.move rfl) rfl ?_
            refine OpsD.take 1 rfl (by kernel_rfl) (by first | exact H | exact H.drop | exact H.drop.drop | exact H.dropL | exact H.drop.dropL | exact H.dropL.drop | exact H.dropL.dropL | exact H.dropMid) (fun w H => Ev.move rfl) rfl ?_
            first | refine OpsD.takeYes 2 rfl (by kernel_rfl) rfl rfl (by first | exact H | exact H.drop | exact H.drop.drop | exact H.dropL | exact H.drop.dropL | exact H.dropL.drop | exact H.dropL.dropL | exact H.dropMid) (fun w H => Ev.move rfl) rfl ?_ | refine OpsD.takeNo 2 rfl (by kernel_rfl) rfl rfl (by first | exact H | exact H.drop | exact H.drop.drop | exact H.dropL | exact H.drop.dropL | exact H.dropL.drop | exact H.dropL.dropL | exact H.dropMid) rfl ?_ | refine OpsD.takeOff 2 rfl (by kernel_rfl) rfl rfl (by first | exact H | exact H.drop | exact H.drop.drop | exact H.dropL | exact H.drop.dropL | exact H.dropL.drop | exact H.dropL.dropL | exact H.dropMid) rfl ?_
            first | refine OpsD.takeYes 3 rfl (by kernel_rfl) rfl rfl (by first | exact H | exact H.drop | exact H.drop.drop | exact H.dropL | exact H.drop.dropL | exact H.dropL.drop | exact H.dropL.dropL | exact H.dropMid) (fun w H => Ev.move rfl) rfl ?_ | refine OpsD.takeNo 3 rfl (by kernel_rfl) rfl rfl (by first | exact H | exact H.drop | exact H.drop.drop | exact H.dropL | exact H.drop.dropL | exact H.dropL.drop | exact H.dropL.dropL | exact H.dropMid) rfl ?_ | refine OpsD.takeOff 3 rfl (by kernel_rfl) rfl rfl (by first | exact H | exact H.drop | exact H.drop.drop | exact H.dropL | exact H.drop.dropL | exact H.dropL.drop | exact H.dropL.dropL | exact H.dropMid) rfl ?_
            first | refine OpsD.takeYes 4 rfl (by kernel_rfl) rfl rfl (by first | exact H | exact H.drop | exact H.drop.drop | exact H.dropL | exact H.drop.dropL | exact H.dropL.drop | exact H.dropL.dropL | exact H.dropMid) (fun w H => Ev.iaSl (n := 40) (sz := 33) (m := k) (o := ol + k * 33) rfl rfl rfl (by kernel_rfl) (by omega)) rfl ?_ | refine OpsD.takeNo 4 rfl (by kernel_rfl) rfl rfl (by first | exact H | exact H.drop | exact H.drop.drop | exact H.dropL | exact H.drop.dropL | exact H.dropL.drop | exact H.dropL.dropL | exact H.dropMid) rfl ?_ | refine OpsD.takeOff 4 rfl (by kernel_rfl) rfl rfl (by first | exact H | exact H.drop | exact H.drop.drop | exact H.dropL | exact H.drop.dropL | exact H.dropL.drop | exact H.dropL.dropL | exact H.dropMid) rfl ?_
            first | refine OpsD.takeYes 5 rfl (by kernel_rfl) rfl rfl (by first | exact H | exact H.drop | exact H.drop.drop | exact H.dropL | exact H.drop.dropL | exact H.dropL.drop | exact H.dropL.dropL | exact H.dropMid) (fun w H => Ev.loadAgg (vs := gI1 y) H rfl (by rw [List.length_cons, gH_len]; kernel_rfl) (fun j v hj => by rw [add_none]; exact hrdy j v hj)) rfl ?_ | refine OpsD.takeNo 5 rfl (by kernel_rfl) rfl rfl (by first | exact H | exact H.drop | exact H.drop.drop | exact H.dropL | exact H.drop.dropL | exact H.dropL.drop | exact H.dropL.dropL | exact H.dropMid) rfl ?_ | refine OpsD.takeOff 5 rfl (by kernel_rfl) rfl rfl (by first | exact H | exact H.drop | exact H.drop.drop | exact H.dropL | exact H.drop.dropL | exact H.dropL.drop | exact H.dropL.dropL | exact H.dropMid) rfl ?_
            first | refine OpsD.takeYes 6 rfl (by kernel_rfl) rfl rfl (by first | exact H | exact H.drop | exact H.drop.drop | exact H.dropL | exact H.drop.dropL | exact H.dropL.drop | exact H.dropL.dropL | exact H.dropMid) (fun w H => Ev.move rfl) rfl ?_ | refine OpsD.takeNo 6 rfl (by kernel_rfl) rfl rfl (by first | exact H | exact H.drop | exact H.drop.drop | exact H.dropL | exact H.drop.dropL | exact H.dropL.drop | exact H.dropL.dropL | exact H.dropMid) rfl ?_ | refine OpsD.takeOff 6 rfl (by kernel_rfl) rfl rfl (by first | exact H | exact H.drop | exact H.drop.drop | exact H.dropL | exact H.drop.dropL | exact H.dropL.drop | exact H.dropL.dropL | exact H.dropMid) rfl ?_
            first | refine OpsD.takeYes 7 rfl (by kernel_rfl) rfl rfl (by first | exact H | exact H.drop | exact H.drop.drop | exact H.dropL | exact H.drop.dropL | exact H.dropL.drop | exact H.dropL.dropL | exact H.dropMid) (fun w H => Ev.move rfl) rfl ?_ | refine OpsD.takeNo 7 rfl (by kernel_rfl) rfl rfl (by first | exact H | exact H.drop | exact H.drop.drop | exact H.dropL | exact H.drop.dropL | exact H.dropL.drop | exact H.dropL.dropL | exact H.dropMid) rfl ?_ | refine OpsD.takeOff 7 rfl (by kernel_rfl) rfl rfl (by first | exact H | exact H.drop | exact H.drop.drop | exact H.dropL | exact H.drop.dropL | exact H.dropL.drop | exact H.dropL.dropL | exact H.dropMid) rfl ?_
            first | refine OpsD.takeYes 8 rfl (by kernel_rfl) rfl rfl (by first | exact H | exact H.drop | exact H.drop.drop | exact H.dropL | exact H.drop.dropL | exact H.dropL.drop | exact H.dropL.dropL | exact H.dropMid) (fun w H => Ev.iaSl (n := 40) (sz := 33) (m := i) (o := om + i * 33) rfl rfl rfl (by kernel_rfl) (by omega)) rfl ?_ | refine OpsD.takeNo 8 rfl (by kernel_rfl) rfl rfl (by first | exact H | exact H.drop | exact H.drop.drop | exact H.dropL | exact H.drop.dropL | exact H.dropL.drop | exact H.dropL.dropL | exact H.dropMid) rfl ?_ | refine OpsD.takeOff 8 rfl (by kernel_rfl) rfl rfl (by first | exact H | exact H.drop | exact H.drop.drop | exact H.dropL | exact H.drop.dropL | exact H.dropL.drop | exact H.dropL.dropL | exact H.dropMid) rfl ?_
            first | refine OpsD.takeYes 9 rfl (by kernel_rfl) rfl rfl (by first | exact H | exact H.drop | exact H.drop.drop | exact H.dropL | exact H.drop.dropL | exact H.dropL.drop | exact H.dropL.dropL | exact H.dropMid) (fun w H => Ev.loadAgg (vs := gI1 (z, h)) H rfl (by rw [List.length_cons, gH_len]; kernel_rfl) (fun j v hj => by rw [add_none]; exact hrdx j v hj)) rfl ?_ | refine OpsD.takeNo 9 rfl (by kernel_rfl) rfl rfl (by first | exact H | exact H.drop | exact H.drop.drop | exact H.dropL | exact H.drop.dropL | exact H.dropL.drop | exact H.dropL.dropL | exact H.dropMid) rfl ?_ | refine OpsD.takeOff 9 rfl (by kernel_rfl) rfl rfl (by first | exact H | exact H.drop | exact H.drop.drop | exact H.dropL | exact H.drop.dropL | exact H.dropL.drop | exact H.dropL.dropL | exact H.dropMid) rfl ?_
            first | refine OpsD.takeYes 10 rfl (by kernel_rfl) rfl rfl (by first | exact H | exact H.drop | exact H.drop.drop | exact H.dropL | exact H.drop.dropL | exact H.dropL.drop | exact H.dropL.dropL | exact H.dropMid) (fun w H => sgEqR y (z, h) hwy hwx rfl rfl (r := true) (decide_eq_true hyz)) rfl ?_ | refine OpsD.takeNo 10 rfl (by kernel_rfl) rfl rfl (by first | exact H | exact H.drop | exact H.drop.drop | exact H.dropL | exact H.drop.dropL | exact H.dropL.drop | exact H.dropL.dropL | exact H.dropMid) rfl ?_ | refine OpsD.takeOff 10 rfl (by kernel_rfl) rfl rfl (by first | exact H | exact H.drop | exact H.drop.drop | exact H.dropL | exact H.drop.dropL | exact H.dropL.drop | exact H.dropL.dropL | exact H.dropMid) rfl ?_
            first | refine OpsD.takeYes 11 rfl (by kernel_rfl) rfl rfl (by first | exact H | exact H.drop | exact H.drop.drop | exact H.dropL | exact H.drop.dropL | exact H.dropL.drop | exact H.dropL.dropL | exact H.dropMid) (fun w H => Ev.move rfl) rfl ?_ | refine OpsD.takeNo 11 rfl (by kernel_rfl) rfl rfl (by first | exact H | exact H.drop | exact H.drop.drop | exact H.dropL | exact H.drop.dropL | exact H.dropL.drop | exact H.dropL.dropL | exact H.dropMid) rfl ?_ | refine OpsD.takeOff 11 rfl (by kernel_rfl) rfl rfl (by first | exact H | exact H.drop | exact H.drop.drop | exact H.dropL | exact H.drop.dropL | exact H.dropL.drop | exact H.dropL.dropL | exact H.dropMid) rfl ?_
            first | refine OpsD.takeYes 12 rfl (by kernel_rfl) rfl rfl (by first | exact H | exact H.drop | exact H.drop.drop | exact H.dropL | exact H.drop.dropL | exact H.dropL.drop | exact H.dropL.dropL | exact H.dropMid) (fun w H => Ev.move rfl) rfl ?_ | refine OpsD.takeNo 12 rfl (by kernel_rfl) rfl rfl (by first | exact H | exact H.drop | exact H.drop.drop | exact H.dropL | exact H.drop.dropL | exact H.dropL.drop | exact H.dropL.dropL | exact H.dropMid) rfl ?_ | refine OpsD.takeOff 12 rfl (by kernel_rfl) rfl rfl (by first | exact H | exact H.drop | exact H.drop.drop | exact H.dropL | exact H.drop.dropL | exact H.dropL.drop | exact H.dropL.dropL | exact H.dropMid) rfl ?_
            first | refine OpsD.takeYes 13 rfl (by kernel_rfl) rfl rfl (by first | exact H | exact H.drop | exact H.drop.drop | exact H.dropL | exact H.drop.dropL | exact H.dropL.drop | exact H.dropL.dropL | exact H.dropMid) (fun w H => Ev.move rfl) rfl ?_ | refine OpsD.takeNo 13 rfl (by kernel_rfl) rfl rfl (by first | exact H | exact H.drop | exact H.drop.drop | exact H.dropL | exact H.drop.dropL | exact H.dropL.drop | exact H.dropL.dropL | exact H.dropMid) rfl ?_ | refine OpsD.takeOff 13 rfl (by kernel_rfl) rfl rfl (by first | exact H | exact H.drop | exact H.drop.drop | exact H.dropL | exact H.drop.dropL | exact H.dropL.drop | exact H.dropL.dropL | exact H.dropMid) rfl ?_
            first | refine OpsD.takeYes 14 rfl (by kernel_rfl) rfl rfl (by first | exact H | exact H.drop | exact H.drop.drop | exact H.dropL | exact H.drop.dropL | exact H.dropL.drop | exact H.dropL.dropL | exact H.dropMid) (fun w H => Ev.iaSl (n := 40) (sz := 33) (m := i) (o := om + i * 33) rfl rfl rfl (by kernel_rfl) (by omega)) rfl ?_ | refine OpsD.takeNo 14 rfl (by kernel_rfl) rfl rfl (by first | exact H | exact H.drop | exact H.drop.drop | exact H.dropL | exact H.drop.dropL | exact H.dropL.drop | exact H.dropL.dropL | exact H.dropMid) rfl ?_ | refine OpsD.takeOff 14 rfl (by kernel_rfl) rfl rfl (by first | exact H | exact H.drop | exact H.drop.drop | exact H.dropL | exact H.drop.dropL | exact H.dropL.drop | exact H.dropL.dropL | exact H.dropMid) rfl ?_
            first | refine OpsD.takeYes 15 rfl (by kernel_rfl) rfl rfl (by first | exact H | exact H.drop | exact H.drop.drop | exact H.dropL | exact H.drop.dropL | exact H.dropL.drop | exact H.dropL.dropL | exact H.dropMid) (fun w H => Ev.fieldAddr (o := 0) rfl (by kernel_rfl)) rfl ?_ | refine OpsD.takeNo 15 rfl (by kernel_rfl) rfl rfl (by first | exact H | exact H.drop | exact H.drop.drop | exact H.dropL | exact H.drop.dropL | exact H.dropL.drop | exact H.dropL.dropL | exact H.dropMid) rfl ?_ | refine OpsD.takeOff 15 rfl (by kernel_rfl) rfl rfl (by first | exact H | exact H.drop | exact H.drop.drop | exact H.dropL | exact H.drop.dropL | exact H.dropL.drop | exact H.dropL.dropL | exact H.dropMid) rfl ?_
            first | refine OpsD.takeYes 16 rfl (by kernel_rfl) rfl rfl (by first | exact H | exact H.drop | exact H.drop.drop | exact H.dropL | exact H.drop.dropL | exact H.dropL.drop | exact H.dropL.dropL | exact H.dropMid) (fun w H => Ev.load (v := .int .i64 z) H rfl (by kernel_rfl) (hrdx 0 _ rfl)) rfl ?_ | refine OpsD.takeNo 16 rfl (by kernel_rfl) rfl rfl (by first | exact H | exact H.drop | exact H.drop.drop | exact H.dropL | exact H.drop.dropL | exact H.dropL.drop | exact H.dropL.dropL | exact H.dropMid) rfl ?_ | refine OpsD.takeOff 16 rfl (by kernel_rfl) rfl rfl (by first | exact H | exact H.drop | exact H.drop.drop | exact H.dropL | exact H.drop.dropL | exact H.dropL.drop | exact H.dropL.dropL | exact H.dropMid) rfl ?_
            first | refine OpsD.takeYes 17 rfl (by kernel_rfl) rfl rfl (by first | exact H | exact H.drop | exact H.drop.drop | exact H.dropL | exact H.drop.dropL | exact H.dropL.drop | exact H.dropL.dropL | exact H.dropMid) (fun w H => Ev.geq (r := false) rfl rfl (decide_eq_false (by omega))) rfl ?_ | refine OpsD.takeNo 17 rfl (by kernel_rfl) rfl rfl (by first | exact H | exact H.drop | exact H.drop.drop | exact H.dropL | exact H.drop.dropL | exact H.dropL.drop | exact H.dropL.dropL | exact H.dropMid) rfl ?_ | refine OpsD.takeOff 17 rfl (by kernel_rfl) rfl rfl (by first | exact H | exact H.drop | exact H.drop.drop | exact H.dropL | exact H.drop.dropL | exact H.dropL.drop | exact H.dropL.dropL | exact H.dropMid) rfl ?_
            first | refine OpsD.takeYes 18 rfl (by kernel_rfl) rfl rfl (by first | exact H | exact H.drop | exact H.drop.drop | exact H.dropL | exact H.drop.dropL | exact H.dropL.drop | exact H.dropL.dropL | exact H.dropMid) (fun w H => (by first | exact Ev.pickT rfl rfl | exact Ev.pickF rfl rfl)) rfl ?_ | refine OpsD.takeNo 18 rfl (by kernel_rfl) rfl rfl (by first | exact H | exact H.drop | exact H.drop.drop | exact H.dropL | exact H.drop.dropL | exact H.dropL.drop | exact H.dropL.dropL | exact H.dropMid) rfl ?_ | refine OpsD.takeOff 18 rfl (by kernel_rfl) rfl rfl (by first | exact H | exact H.drop | exact H.drop.drop | exact H.dropL | exact H.drop.dropL | exact H.dropL.drop | exact H.dropL.dropL | exact H.dropMid) rfl ?_
            first | refine OpsD.takeYes 19 rfl (by kernel_rfl) rfl rfl (by first | exact H | exact H.drop | exact H.drop.drop | exact H.dropL | exact H.drop.dropL | exact H.dropL.drop | exact H.dropL.dropL | exact H.dropMid) (fun w H => Ev.move rfl) rfl ?_ | refine OpsD.takeNo 19 rfl (by kernel_rfl) rfl rfl (by first | exact H | exact H.drop | exact H.drop.drop | exact H.dropL | exact H.drop.dropL | exact H.dropL.drop | exact H.dropL.dropL | exact H.dropMid) rfl ?_ | refine OpsD.takeOff 19 rfl (by kernel_rfl) rfl rfl (by first | exact H | exact H.drop | exact H.drop.drop | exact H.dropL | exact H.drop.dropL | exact H.dropL.drop | exact H.dropL.dropL | exact H.dropMid) rfl ?_
            first | refine OpsD.takeYes 20 rfl (by kernel_rfl) rfl rfl (by first | exact H | exact H.drop | exact H.drop.drop | exact H.dropL | exact H.drop.dropL | exact H.dropL.drop | exact H.dropL.dropL | exact H.dropMid) (fun w H => Ev.move rfl) rfl ?_ | refine OpsD.takeNo 20 rfl (by kernel_rfl) rfl rfl (by first | exact H | exact H.drop | exact H.drop.drop | exact H.dropL | exact H.drop.dropL | exact H.dropL.drop | exact H.dropL.dropL | exact H.dropMid) rfl ?_ | refine OpsD.takeOff 20 rfl (by kernel_rfl) rfl rfl (by first | exact H | exact H.drop | exact H.drop.drop | exact H.dropL | exact H.drop.dropL | exact H.dropL.drop | exact H.dropL.dropL | exact H.dropMid) rfl ?_
            first | refine OpsD.takeYes 21 rfl (by kernel_rfl) rfl rfl (by first | exact H | exact H.drop | exact H.drop.drop | exact H.dropL | exact H.drop.dropL | exact H.dropL.drop | exact H.dropL.dropL | exact H.dropMid) (fun w H => Ev.move rfl) rfl ?_ | refine OpsD.takeNo 21 rfl (by kernel_rfl) rfl rfl (by first | exact H | exact H.drop | exact H.drop.drop | exact H.dropL | exact H.drop.dropL | exact H.dropL.drop | exact H.dropL.dropL | exact H.dropMid) rfl ?_ | refine OpsD.takeOff 21 rfl (by kernel_rfl) rfl rfl (by first | exact H | exact H.drop | exact H.drop.drop | exact H.dropL | exact H.drop.dropL | exact H.dropL.drop | exact H.dropL.dropL | exact H.dropMid) rfl ?_
            first | refine OpsD.takeYes 22 rfl (by kernel_rfl) rfl rfl (by first | exact H | exact H.drop | exact H.drop.drop | exact H.dropL | exact H.drop.dropL | exact H.dropL.drop | exact H.dropL.dropL | exact H.dropMid) (fun w H => Ev.iaSl (n := 40) (sz := 33) (m := i) (o := om + i * 33) rfl rfl rfl (by kernel_rfl) (by omega)) rfl ?_ | refine OpsD.takeNo 22 rfl (by kernel_rfl) rfl rfl (by first | exact H | exact H.drop | exact H.drop.drop | exact H.dropL | exact H.drop.dropL | exact H.dropL.drop | exact H.dropL.dropL | exact H.dropMid) rfl ?_ | refine OpsD.takeOff 22 rfl (by kernel_rfl) rfl rfl (by first | exact H | exact H.drop | exact H.drop.drop | exact H.dropL | exact H.drop.dropL | exact H.dropL.drop | exact H.dropL.dropL | exact H.dropMid) rfl ?_
            first | refine OpsD.takeYes 23 rfl (by kernel_rfl) rfl rfl (by first | exact H | exact H.drop | exact H.drop.drop | exact H.dropL | exact H.drop.dropL | exact H.dropL.drop | exact H.dropL.dropL | exact H.dropMid) (fun w H => Ev.fieldAddr (o := 0) rfl (by kernel_rfl)) rfl ?_ | refine OpsD.takeNo 23 rfl (by kernel_rfl) rfl rfl (by first | exact H | exact H.drop | exact H.drop.drop | exact H.dropL | exact H.drop.dropL | exact H.dropL.drop | exact H.dropL.dropL | exact H.dropMid) rfl ?_ | refine OpsD.takeOff 23 rfl (by kernel_rfl) rfl rfl (by first | exact H | exact H.drop | exact H.drop.drop | exact H.dropL | exact H.drop.dropL | exact H.dropL.drop | exact H.dropL.dropL | exact H.dropMid) rfl ?_
            first | refine OpsD.takeYes 24 rfl (by kernel_rfl) rfl rfl (by first | exact H | exact H.drop | exact H.drop.drop | exact H.dropL | exact H.drop.dropL | exact H.dropL.drop | exact H.dropL.dropL | exact H.dropMid) (fun w H => Ev.load (v := .int .i64 z) H rfl (by kernel_rfl) (hrdx 0 _ rfl)) rfl ?_ | refine OpsD.takeNo 24 rfl (by kernel_rfl) rfl rfl (by first | exact H | exact H.drop | exact H.drop.drop | exact H.dropL | exact H.drop.dropL | exact H.dropL.drop | exact H.dropL.dropL | exact H.dropMid) rfl ?_ | refine OpsD.takeOff 24 rfl (by kernel_rfl) rfl rfl (by first | exact H | exact H.drop | exact H.drop.drop | exact H.dropL | exact H.drop.dropL | exact H.dropL.drop | exact H.dropL.dropL | exact H.dropMid) rfl ?_
            first | refine OpsD.takeYes 25 rfl (by kernel_rfl) rfl rfl (by first | exact H | exact H.drop | exact H.drop.drop | exact H.dropL | exact H.drop.dropL | exact H.dropL.drop | exact H.dropL.dropL | exact H.dropMid) (fun w H => Ev.lss (r := true) rfl rfl (decide_eq_true (by omega))) rfl ?_ | refine OpsD.takeNo 25 rfl (by kernel_rfl) rfl rfl (by first | exact H | exact H.drop | exact H.drop.drop | exact H.dropL | exact H.drop.dropL | exact H.dropL.drop | exact H.dropL.dropL | exact H.dropMid) rfl ?_ | refine OpsD.takeOff 25 rfl (by kernel_rfl) rfl rfl (by first | exact H | exact H.drop | exact H.drop.drop | exact H.dropL | exact H.drop.dropL | exact H.dropL.drop | exact H.dropL.dropL | exact H.dropMid) rfl ?_
            first | refine OpsD.takeYes 26 rfl (by kernel_rfl) rfl rfl (by first | exact H | exact H.drop | exact H.drop.drop | exact H.dropL | exact H.drop.dropL | exact H.dropL.drop | exact H.dropL.dropL | exact H.dropMid) (fun w H => (by first | exact Ev.pickT rfl rfl | exact Ev.pickF rfl rfl)) rfl ?_ | refine OpsD.takeNo 26 rfl (by kernel_rfl) rfl rfl (by first | exact H | exact H.drop | exact H.drop.drop | exact H.dropL | exact H.drop.dropL | exact H.dropL.drop | exact H.dropL.dropL | exact H.dropMid) rfl ?_ | refine OpsD.takeOff 26 rfl (by kernel_rfl) rfl rfl (by first | exact H | exact H.drop | exact H.drop.drop | exact H.dropL | exact H.drop.dropL | exact H.dropL.drop | exact H.dropL.dropL | exact H.dropMid) rfl ?_
            refine OpsD.take 27 rfl (by kernel_rfl) (by first | exact H | exact H.drop | exact H.drop.drop | exact H.dropL | exact H.drop.dropL | exact H.dropL.drop | exact H.dropL.dropL | exact H.dropMid) (fun w H => (by first | exact Ev.pickT rfl rfl | exact Ev.pickF rfl rfl)) rfl ?_
            refine OpsD.take 28 rfl (by kernel_rfl) (by first | exact H | exact H.drop | exact H.drop.drop | exact H.dropL | exact H.drop.dropL | exact H.dropL.drop | exact H.dropL.dropL | exact H.dropMid) (fun w H => Ev.assign rfl) rfl ?_
            refine OpsD.done (by kernel_rfl) ?_
            refine RunsE.inBlock ?_
            repeat (first | refine RunsE.seq ?_ | refine RunsE.skip ?_ | refine RunsE.block ?_ | refine RunsE.inBlock ?_ | refine RunsE.yes rfl ?_ | refine RunsE.no rfl ?_ | refine RunsE.exit rfl ?_)
            refine RunsE.region ?_
            refine OpsE.ev (Ev.move rfl) rfl ?_
            refine OpsE.ev (Ev.add rfl rfl) rfl ?_
            refine OpsE.ev (Ev.assign rfl) rfl ?_
            refine OpsE.nil ?_
            exact nextK (k + 1) _ _ (by omega) ⟨by omega, by omega, H⟩ ⟨rfl, rfl, rfl, rfl, rfl, congrArg (fun r => some (Value.bool r)) hfin.symm, rfl, trivial⟩
        · have hfin : wasF (k + 1) = false := by rw [hstep, decide_eq_false hyz, Bool.and_false]
          repeat (first | refine RunsE.seq ?_ | refine RunsE.skip ?_ | refine RunsE.block ?_ | refine RunsE.inBlock ?_ | refine RunsE.yes rfl ?_ | refine RunsE.no rfl ?_ | refine RunsE.exit rfl ?_)
          refine RunsE.drawS H [] (by kernel_rfl) ?_; (try clear H); intro w H
          refine OpsD.take 0 rfl (by kernel_rfl) (by first | exact H | exact H.drop | exact H.drop.drop | exact H.dropL | exact H.drop.dropL | exact H.dropL.drop | exact H.dropL.dropL | exact H.dropMid) (fun w H => Ev.move rfl) rfl ?_
          refine OpsD.take 1 rfl (by kernel_rfl) (by first | exact H | exact H.drop | exact H.drop.drop | exact H.dropL | exact H.drop.dropL | exact H.dropL.drop | exact H.dropL.dropL | exact H.dropMid) (fun w H => Ev.move rfl) rfl ?_
          first | refine OpsD.takeYes 2 rfl (by kernel_rfl) rfl rfl (by first | exact H | exact H.drop | exact H.drop.drop | exact H.dropL | exact H.drop.dropL | exact H.dropL.drop | exact H.dropL.dropL | exact H.dropMid) (fun w H => Ev.move rfl) rfl ?_ | refine OpsD.takeNo 2 rfl (by kernel_rfl) rfl rfl (by first | exact H | exact H.drop | exact H.drop.drop | exact H.dropL | exact H.drop.dropL | exact H.dropL.drop | exact H.dropL.dropL | exact H.dropMid) rfl ?_ | refine OpsD.takeOff 2 rfl (by kernel_rfl) rfl rfl (by first | exact H | exact H.drop | exact H.drop.drop | exact H.dropL | exact H.drop.dropL | exact H.dropL.drop | exact H.dropL.dropL | exact H.dropMid) rfl ?_
          first | refine OpsD.takeYes 3 rfl (by kernel_rfl) rfl rfl (by first | exact H | exact H.drop | exact H.drop.drop | exact H.dropL | exact H.drop.dropL | exact H.dropL.drop | exact H.dropL.dropL | exact H.dropMid) (fun w H => Ev.move rfl) rfl ?_ | refine OpsD.takeNo 3 rfl (by kernel_rfl) rfl rfl (by first | exact H | exact H.drop | exact H.drop.drop | exact H.dropL | exact H.drop.dropL | exact H.dropL.drop | exact H.dropL.dropL | exact H.dropMid) rfl ?_ | refine OpsD.takeOff 3 rfl (by kernel_rfl) rfl rfl (by first | exact H | exact H.drop | exact H.drop.drop | exact H.dropL | exact H.drop.dropL | exact H.dropL.drop | exact H.dropL.dropL | exact H.dropMid) rfl ?_
          first | refine OpsD.takeYes 4 rfl (by kernel_rfl) rfl rfl (by first | exact H | exact H.drop | exact H.drop.drop | exact H.dropL | exact H.drop.dropL | exact H.dropL.drop | exact H.dropL.dropL | exact H.dropMid) (fun w H => Ev.iaSl (n := 40) (sz := 33) (m := k) (o := ol + k * 33) rfl rfl rfl (by kernel_rfl) (by omega)) rfl ?_ | refine OpsD.takeNo 4 rfl (by kernel_rfl) rfl rfl (by first | exact H | exact H.drop | exact H.drop.drop | exact H.dropL | exact H.drop.dropL | exact H.dropL.drop | exact H.dropL.dropL | exact H.dropMid) rfl ?_ | refine OpsD.takeOff 4 rfl (by kernel_rfl) rfl rfl (by first | exact H | exact H.drop | exact H.drop.drop | exact H.dropL | exact H.drop.dropL | exact H.dropL.drop | exact H.dropL.dropL | exact H.dropMid) rfl ?_
          first | refine OpsD.takeYes 5 rfl (by kernel_rfl) rfl rfl (by first | exact H | exact H.drop | exact H.drop.drop | exact H.dropL | exact H.drop.dropL | exact H.dropL.drop | exact H.dropL.dropL | exact H.dropMid) (fun w H => Ev.loadAgg (vs := gI1 y) H rfl (by rw [List.length_cons, gH_len]; kernel_rfl) (fun j v hj => by rw [add_none]; exact hrdy j v hj)) rfl ?_ | refine OpsD.takeNo 5 rfl (by kernel_rfl) rfl rfl (by first | exact H | exact H.drop | exact H.drop.drop | exact H.dropL | exact H.drop.dropL | exact H.dropL.drop | exact H.dropL.dropL | exact H.dropMid) rfl ?_ | refine OpsD.takeOff 5 rfl (by kernel_rfl) rfl rfl (by first | exact H | exact H.drop | exact H.drop.drop | exact H.dropL | exact H.drop.dropL | exact H.dropL.drop | exact H.dropL.dropL | exact H.dropMid) rfl ?_
          first | refine OpsD.takeYes 6 rfl (by kernel_rfl) rfl rfl (by first | exact H | exact H.drop | exact H.drop.drop | exact H.dropL | exact H.drop.dropL | exact H.dropL.drop | exact H.dropL.dropL | exact H.dropMid) (fun w H => Ev.move rfl) rfl ?_ | refine OpsD.takeNo 6 rfl (by kernel_rfl) rfl rfl (by first | exact H | exact H.drop | exact H.drop.drop | exact H.dropL | exact H.drop.dropL | exact H.dropL.drop | exact H.dropL.dropL | exact H.dropMid) rfl ?_ | refine OpsD.takeOff 6 rfl (by kernel_rfl) rfl rfl (by first | exact H | exact H.drop | exact H.drop.drop | exact H.dropL | exact H.drop.dropL | exact H.dropL.drop | exact H.dropL.dropL | exact H.dropMid) rfl ?_
          first | refine OpsD.takeYes 7 rfl (by kernel_rfl) rfl rfl (by first | exact H | exact H.drop | exact H.drop.drop | exact H.dropL | exact H.drop.dropL | exact H.dropL.drop | exact H.dropL.dropL | exact H.dropMid) (fun w H => Ev.move rfl) rfl ?_ | refine OpsD.takeNo 7 rfl (by kernel_rfl) rfl rfl (by first | exact H | exact H.drop | exact H.drop.drop | exact H.dropL | exact H.drop.dropL | exact H.dropL.drop | exact H.dropL.dropL | exact H.dropMid) rfl ?_ | refine OpsD.takeOff 7 rfl (by kernel_rfl) rfl rfl (by first | exact H | exact H.drop | exact H.drop.drop | exact H.dropL | exact H.drop.dropL | exact H.dropL.drop | exact H.dropL.dropL | exact H.dropMid) rfl ?_
          first | refine OpsD.takeYes 8 rfl (by kernel_rfl) rfl rfl (by first | exact H | exact H.drop | exact H.drop.drop | exact H.dropL | exact H.drop.dropL | exact H.dropL.drop | exact H.dropL.dropL | exact H.dropMid) (fun w H => Ev.iaSl (n := 40) (sz := 33) (m := i) (o := om + i * 33) rfl rfl rfl (by kernel_rfl) (by omega)) rfl ?_ | refine OpsD.takeNo 8 rfl (by kernel_rfl) rfl rfl (by first | exact H | exact H.drop | exact H.drop.drop | exact H.dropL | exact H.drop.dropL | exact H.dropL.drop | exact H.dropL.dropL | exact H.dropMid) rfl ?_ | refine OpsD.takeOff 8 rfl (by kernel_rfl) rfl rfl (by first | exact H | exact H.drop | exact H.drop.drop | exact H.dropL | exact H.drop.dropL | exact H.dropL.drop | exact H.dropL.dropL | exact H.dropMid) rfl ?_
          first | refine OpsD.takeYes 9 rfl (by kernel_rfl) rfl rfl (by first | exact H | exact H.drop | exact H.drop.drop | exact H.dropL | exact H.drop.dropL | exact H.dropL.drop | exact H.dropL.dropL | exact H.dropMid) (fun w H => Ev.loadAgg (vs := gI1 (z, h)) H rfl (by rw [List.length_cons, gH_len]; kernel_rfl) (fun j v hj => by rw [add_none]; exact hrdx j v hj)) rfl ?_ | refine OpsD.takeNo 9 rfl (by kernel_rfl) rfl rfl (by first | exact H | exact H.drop | exact H.drop.drop | exact H.dropL | exact H.drop.dropL | exact H.dropL.drop | exact H.dropL.dropL | exact H.dropMid) rfl ?_ | refine OpsD.takeOff 9 rfl (by kernel_rfl) rfl rfl (by first | exact H | exact H.drop | exact H.drop.drop | exact H.dropL | exact H.drop.dropL | exact H.dropL.drop | exact H.dropL.dropL | exact H.dropMid) rfl ?_
          first | refine OpsD.takeYes 10 rfl (by kernel_rfl) rfl rfl (by first | exact H | exact H.drop | exact H.drop.drop | exact H.dropL | exact H.drop.dropL | exact H.dropL.drop | exact H.dropL.dropL | exact H.dropMid) (fun w H => sgEqR y (z, h) hwy hwx rfl rfl (r := false) (decide_eq_false hyz)) rfl ?_ | refine OpsD.takeNo 10 rfl (by kernel_rfl) rfl rfl (by first | exact H | exact H.drop | exact H.drop.drop | exact H.dropL | exact H.drop.dropL | exact H.dropL.drop | exact H.dropL.dropL | exact H.dropMid) rfl ?_ | refine OpsD.takeOff 10 rfl (by kernel_rfl) rfl rfl (by first | exact H | exact H.drop | exact H.drop.drop | exact H.dropL | exact H.drop.dropL | exact H.dropL.drop | exact H.dropL.dropL | exact H.dropMid) rfl ?_
          first | refine OpsD.takeYes 11 rfl (by kernel_rfl) rfl rfl (by first | exact H | exact H.drop | exact H.drop.drop | exact H.dropL | exact H.drop.dropL | exact H.dropL.drop | exact H.dropL.dropL | exact H.dropMid) (fun w H => Ev.move rfl) rfl ?_ | refine OpsD.takeNo 11 rfl (by kernel_rfl) rfl rfl (by first | exact H | exact H.drop | exact H.drop.drop | exact H.dropL | exact H.drop.dropL | exact H.dropL.drop | exact H.dropL.dropL | exact H.dropMid) rfl ?_ | refine OpsD.takeOff 11 rfl (by kernel_rfl) rfl rfl (by first | exact H | exact H.drop | exact H.drop.drop | exact H.dropL | exact H.drop.dropL | exact H.dropL.drop | exact H.dropL.dropL | exact H.dropMid) rfl ?_
          first | refine OpsD.takeYes 12 rfl (by kernel_rfl) rfl rfl (by first | exact H | exact H.drop | exact H.drop.drop | exact H.dropL | exact H.drop.dropL | exact H.dropL.drop | exact H.dropL.dropL | exact H.dropMid) (fun w H => Ev.move rfl) rfl ?_ | refine OpsD.takeNo 12 rfl (by kernel_rfl) rfl rfl (by first | exact H | exact H.drop | exact H.drop.drop | exact H.dropL | exact H.drop.dropL | exact H.dropL.drop | exact H.dropL.dropL | exact H.dropMid) rfl ?_ | refine OpsD.takeOff 12 rfl (by kernel_rfl) rfl rfl (by first | exact H | exact H.drop | exact H.drop.drop | exact H.dropL | exact H.drop.dropL | exact H.dropL.drop | exact H.dropL.dropL | exact H.dropMid) rfl ?_
          first | refine OpsD.takeYes 13 rfl (by kernel_rfl) rfl rfl (by first | exact H | exact H.drop | exact H.drop.drop | exact H.dropL | exact H.drop.dropL | exact H.dropL.drop | exact H.dropL.dropL | exact H.dropMid) (fun w H => Ev.move rfl) rfl ?_ | refine OpsD.takeNo 13 rfl (by kernel_rfl) rfl rfl (by first | exact H | exact H.drop | exact H.drop.drop | exact H.dropL | exact H.drop.dropL | exact H.dropL.drop | exact H.dropL.dropL | exact H.dropMid) rfl ?_ | refine OpsD.takeOff 13 rfl (by kernel_rfl) rfl rfl (by first | exact H | exact H.drop | exact H.drop.drop | exact H.dropL | exact H.drop.dropL | exact H.dropL.drop | exact H.dropL.dropL | exact H.dropMid) rfl ?_
          first | refine OpsD.takeYes 14 rfl (by kernel_rfl) rfl rfl (by first | exact H | exact H.drop | exact H.drop.drop | exact H.dropL | exact H.drop.dropL | exact H.dropL.drop | exact H.dropL.dropL | exact H.dropMid) (fun w H => Ev.iaSl (n := 40) (sz := 33) (m := i) (o := om + i * 33) rfl rfl rfl (by kernel_rfl) (by omega)) rfl ?_ | refine OpsD.takeNo 14 rfl (by kernel_rfl) rfl rfl (by first | exact H | exact H.drop | exact H.drop.drop | exact H.dropL | exact H.drop.dropL | exact H.dropL.drop | exact H.dropL.dropL | exact H.dropMid) rfl ?_ | refine OpsD.takeOff 14 rfl (by kernel_rfl) rfl rfl (by first | exact H | exact H.drop | exact H.drop.drop | exact H.dropL | exact H.drop.dropL | exact H.dropL.drop | exact H.dropL.dropL | exact H.dropMid) rfl ?_
          first | refine OpsD.takeYes 15 rfl (by kernel_rfl) rfl rfl (by first | exact H | exact H.drop | exact H.drop.drop | exact H.dropL | exact H.drop.dropL | exact H.dropL.drop | exact H.dropL.dropL | exact H.dropMid) (fun w H => Ev.fieldAddr (o := 0) rfl (by kernel_rfl)) rfl ?_ | refine OpsD.takeNo 15 rfl (by kernel_rfl) rfl rfl (by first | exact H | exact H.drop | exact H.drop.drop | exact H.dropL | exact H.drop.dropL | exact H.dropL.drop | exact H.dropL.dropL | exact H.dropMid) rfl ?_ | refine OpsD.takeOff 15 rfl (by kernel_rfl) rfl rfl (by first | exact H | exact H.drop | exact H.drop.drop | exact H.dropL | exact H.drop.dropL | exact H.dropL.drop | exact H.dropL.dropL | exact H.dropMid) rfl ?_
          first | refine OpsD.takeYes 16 rfl (by kernel_rfl) rfl rfl (by first | exact H | exact H.drop | exact H.drop.drop | exact H.dropL | exact H.drop.dropL | exact H.dropL.drop | exact H.dropL.dropL | exact H.dropMid) (fun w H => Ev.load (v := .int .i64 z) H rfl (by kernel_rfl) (hrdx 0 _ rfl)) rfl ?_ | refine OpsD.takeNo 16 rfl (by kernel_rfl) rfl rfl (by first | exact H | exact H.drop | exact H.drop.drop | exact H.dropL | exact H.drop.dropL | exact H.dropL.drop | exact H.dropL.dropL | exact H.dropMid) rfl ?_ | refine OpsD.takeOff 16 rfl (by kernel_rfl) rfl rfl (by first | exact H | exact H.drop | exact H.drop.drop | exact H.dropL | exact H.drop.dropL | exact H.dropL.drop | exact H.dropL.dropL | exact H.dropMid) rfl ?_
          first | refine OpsD.takeYes 17 rfl (by kernel_rfl) rfl rfl (by first | exact H | exact H.drop | exact H.drop.drop | exact H.dropL | exact H.drop.dropL | exact H.dropL.drop | exact H.dropL.dropL | exact H.dropMid) (fun w H => Ev.geq (r := true) rfl rfl (decide_eq_true (by omega))) rfl ?_ | refine OpsD.takeNo 17 rfl (by kernel_rfl) rfl rfl (by first | exact H | exact H.drop | exact H.drop.drop | exact H.dropL | exact H.drop.dropL | exact H.dropL.drop | exact H.dropL.dropL | exact H.dropMid) rfl ?_ | refine OpsD.takeOff 17 rfl (by kernel_rfl) rfl rfl (by first | exact H | exact H.drop | exact H.drop.drop | exact H.dropL | exact H.drop.dropL | exact H.dropL.drop | exact H.dropL.dropL | exact H.dropMid) rfl ?_
          first | refine OpsD.takeYes 18 rfl (by kernel_rfl) rfl rfl (by first | exact H | exact H.drop | exact H.drop.drop | exact H.dropL | exact H.drop.dropL | exact H.dropL.drop | exact H.dropL.dropL | exact H.dropMid) (fun w H => (by first | exact Ev.pickT rfl rfl | exact Ev.pickF rfl rfl)) rfl ?_ | refine OpsD.takeNo 18 rfl (by kernel_rfl) rfl rfl (by first | exact H | exact H.drop | exact H.drop.drop | exact H.dropL | exact H.drop.dropL | exact H.dropL.drop | exact H.dropL.dropL | exact H.dropMid) rfl ?_ | refine OpsD.takeOff 18 rfl (by kernel_rfl) rfl rfl (by first | exact H | exact H.drop | exact H.drop.drop | exact H.dropL | exact H.drop.dropL | exact H.dropL.drop | exact H.dropL.dropL | exact H.dropMid) rfl ?_
          first | refine OpsD.takeYes 19 rfl (by kernel_rfl) rfl rfl (by first | exact H | exact H.drop | exact H.drop.drop | exact H.dropL | exact H.drop.dropL | exact H.dropL.drop | exact H.dropL.dropL | exact H.dropMid) (fun w H => Ev.move rfl) rfl ?_ | refine OpsD.takeNo 19 rfl (by kernel_rfl) rfl rfl (by first | exact H | exact H.drop | exact H.drop.drop | exact H.dropL | exact H.drop.dropL | exact H.dropL.drop | exact H.dropL.dropL | exact H.dropMid) rfl ?_ | refine OpsD.takeOff 19 rfl (by kernel_rfl) rfl rfl (by first | exact H | exact H.drop | exact H.drop.drop | exact H.dropL | exact H.drop.dropL | exact H.dropL.drop | exact H.dropL.dropL | exact H.dropMid) rfl ?_
          first | refine OpsD.takeYes 20 rfl (by kernel_rfl) rfl rfl (by first | exact H | exact H.drop | exact H.drop.drop | exact H.dropL | exact H.drop.dropL | exact H.dropL.drop | exact H.dropL.dropL | exact H.dropMid) (fun w H => Ev.move rfl) rfl ?_ | refine OpsD.takeNo 20 rfl (by kernel_rfl) rfl rfl (by first | exact H | exact H.drop | exact H.drop.drop | exact H.dropL | exact H.drop.dropL | exact H.dropL.drop | exact H.dropL.dropL | exact H.dropMid) rfl ?_ | refine OpsD.takeOff 20 rfl (by kernel_rfl) rfl rfl (by first | exact H | exact H.drop | exact H.drop.drop | exact H.dropL | exact H.drop.dropL | exact H.dropL.drop | exact H.dropL.dropL | exact H.dropMid) rfl ?_
          first | refine OpsD.takeYes 21 rfl (by kernel_rfl) rfl rfl (by first | exact H | exact H.drop | exact H.drop.drop | exact H.dropL | exact H.drop.dropL | exact H.dropL.drop | exact H.dropL.dropL | exact H.dropMid) (fun w H => Ev.move rfl) rfl ?_ | refine OpsD.takeNo 21 rfl (by kernel_rfl) rfl rfl (by first | exact H | exact H.drop | exact H.drop.drop | exact H.dropL | exact H.drop.dropL | exact H.dropL.drop | exact H.dropL.dropL | exact H.dropMid) rfl ?_ | refine OpsD.takeOff 21 rfl (by kernel_rfl) rfl rfl (by first | exact H | exact H.drop | exact H.drop.drop | exact H.dropL | exact H.drop.dropL | exact H.dropL.drop | exact H.dropL.dropL | exact H.dropMid) rfl ?_
          first | refine OpsD.takeYes 22 rfl (by kernel_rfl) rfl rfl (by first | exact H | exact H.drop | exact H.drop.drop | exact H.dropL | exact H.drop.dropL | exact H.dropL.drop | exact H.dropL.dropL | exact H.dropMid) (fun w H => Ev.iaSl (n := 40) (sz := 33) (m := i) (o := om + i * 33) rfl rfl rfl (by kernel_rfl) (by omega)) rfl ?_ | refine OpsD.takeNo 22 rfl (by kernel_rfl) rfl rfl (by first | exact H | exact H.drop | exact H.drop.drop | exact H.dropL | exact H.drop.dropL | exact H.dropL.drop | exact H.dropL.dropL | exact H.dropMid) rfl ?_ | refine OpsD.takeOff 22 rfl (by kernel_rfl) rfl rfl (by first | exact H | exact H.drop | exact H.drop.drop | exact H.dropL | exact H.drop.dropL | exact H.dropL.drop | exact H.dropL.dropL | exact H.dropMid) rfl ?_
          first | refine OpsD.takeYes 23 rfl (by kernel_rfl) rfl rfl (by first | exact H | exact H.drop | exact H.drop.drop | exact H.dropL | exact H.drop.dropL | exact H.dropL.drop | exact H.dropL.dropL | exact H.dropMid) (fun w H => Ev.fieldAddr (o := 0) rfl (by kernel_rfl)) rfl ?_ | refine OpsD.takeNo 23 rfl (by kernel_rfl) rfl rfl (by first | exact H | exact H.drop | exact H.drop.drop | exact H.dropL | exact H.drop.dropL | exact H.dropL.drop | exact H.dropL.dropL | exact H.dropMid) rfl ?_ | refine OpsD.takeOff 23 rfl (by kernel_rfl) rfl rfl (by first | exact H | exact H.drop | exact H.drop.drop | exact H.dropL | exact H.drop.dropL | exact H.dropL.drop | exact H.dropL.dropL | exact H.dropMid) rfl ?_
          first | refine OpsD.takeYes 24 rfl (by kernel_rfl) rfl rfl (by first | exact H | exact H.drop | exact H.drop.drop | exact H.dropL | exact H.drop.dropL | exact H.dropL.drop | exact H.dropL.dropL | exact H.dropMid) (fun w H => Ev.load (v := .int .i64 z) H rfl (by kernel_rfl) (hrdx 0 _ rfl)) rfl ?_ | refine OpsD.takeNo 24 rfl (by kernel_rfl) rfl rfl (by first | exact H | exact H.drop | exact H.drop.drop | exact H.dropL | exact H.drop.dropL | exact H.dropL.drop | exact H.dropL.dropL | exact H.dropMid) rfl ?_ | refine OpsD.takeOff 24 rfl (by kernel_rfl) rfl rfl (by first | exact H | exact H.drop | exact H.drop.drop | exact H.dropL | exact H.drop.dropL | exact H.dropL.drop | exact H.dropL.dropL | exact H.dropMid) rfl ?_
          first | refine OpsD.takeYes 25 rfl (by kernel_rfl) rfl rfl (by first | exact H | exact H.drop | exact H.drop.drop | exact H.dropL | exact H.drop.dropL | exact H.dropL.drop | exact H.dropL.dropL | exact H.dropMid) (fun w H => Ev.lss (r := true) rfl rfl (decide_eq_true (by omega))) rfl ?_ | refine OpsD.takeNo 25 rfl (by kernel_rfl) rfl rfl (by first | exact H | exact H.drop | exact H.drop.drop | exact H.dropL | exact H.drop.dropL | exact H.dropL.drop | exact H.dropL.dropL | exact H.dropMid) rfl ?_ | refine OpsD.takeOff 25 rfl (by kernel_rfl) rfl rfl (by first | exact H | exact H.drop | exact H.drop.drop | exact H.dropL | exact H.drop.dropL | exact H.dropL.drop | exact H.dropL.dropL | exact H.dropMid) rfl ?_
          first | refine OpsD.takeYes 26 rfl (by kernel_rfl) rfl rfl (by first | exact H | exact H.drop | exact H.drop.drop | exact H.dropL | exact H.drop.dropL | exact H.dropL.drop | exact H.dropL.dropL | exact H.dropMid) (fun w H => (by first | exact Ev.pickT rfl rfl | exact Ev.pickF rfl rfl)) rfl ?_ | refine OpsD.takeNo 26 rfl (by kernel_rfl) rfl rfl (by first | exact H | exact H.drop | exact H.drop.drop | exact H.dropL | exact H.drop.dropL | exact H.dropL.drop | exact H.dropL.dropL | exact H.dropMid) rfl ?_ | refine OpsD.takeOff 26 rfl (by kernel_rfl) rfl rfl (by first | exact H | exact H.drop | exact H.drop.drop | exact H.dropL | exact H.drop.dropL | exact H.dropL.drop | exact H.dropL.dropL | exact H.dropMid) rfl ?_
          refine OpsD.take 27 rfl (by kernel_rfl) (by first | exact H | exact H.drop | exact H.drop.drop | exact H.dropL | exact H.drop.dropL | exact H.dropL.drop | exact H.dropL.dropL | exact H.dropMid) (fun w H => (by first | exact Ev.pickT rfl rfl | exact Ev.pickF rfl rfl)) rfl ?_
          refine OpsD.take 28 rfl (by kernel_rfl) (by first | exact H | exact H.drop | exact H.drop.drop | exact H.dropL | exact H.drop.dropL | exact H.dropL.drop | exact H.dropL.dropL | exact H.dropMid) (fun w H => Ev.assign rfl) rfl ?_
          refine OpsD.done (by kernel_rfl) ?_
          refine RunsE.inBlock ?_
          repeat (first | refine RunsE.seq ?_ | refine RunsE.skip ?_ | refine RunsE.block ?_ | refine RunsE.inBlock ?_ | refine RunsE.yes rfl ?_ | refine RunsE.no rfl ?_ | refine RunsE.exit rfl ?_)
          refine RunsE.region ?_
          refine OpsE.ev (Ev.move rfl) rfl ?_
          refine OpsE.ev (Ev.add rfl rfl) rfl ?_
          refine OpsE.ev (Ev.assign rfl) rfl ?_
          refine OpsE.nil ?_
          exact nextK (k + 1) _ _ (by omega) ⟨by omega, by omega, H⟩ ⟨rfl, rfl, rfl, rfl, rfl, congrArg (fun r => some (Value.bool r)) hfin.symm, rfl, trivial⟩
    clear H
    rintro _ w H
    repeat (first | refine RunsE.seq ?_ | refine RunsE.skip ?_ | refine RunsE.block ?_ | refine RunsE.inBlock ?_ | refine RunsE.yes rfl ?_ | refine RunsE.no rfl ?_ | refine RunsE.exit rfl ?_)
    refine RunsE.drawS H [] (by kernel_rfl) ?_; (try clear H); intro w H
    refine OpsD.take 0 rfl (by kernel_rfl) (by first | exact H | exact H.drop | exact H.drop.drop | exact H.dropL | exact H.drop.dropL | exact H.dropL.drop | exact H.dropL.dropL | exact H.dropMid) (fun w H => Ev.move rfl) rfl ?_
    refine OpsD.take 1 rfl (by kernel_rfl) (by first | exact H | exact H.drop | exact H.drop.drop | exact H.dropL | exact H.drop.dropL | exact H.dropL.drop | exact H.dropL.dropL | exact H.dropMid) (fun w H => Ev.move rfl) rfl ?_
    refine OpsD.take 2 rfl (by kernel_rfl) (by first | exact H | exact H.drop | exact H.drop.drop | exact H.dropL | exact H.drop.dropL | exact H.dropL.drop | exact H.dropL.dropL | exact H.dropMid) (fun w H => Ev.move rfl) rfl ?_
    refine OpsD.take 3 rfl (by kernel_rfl) (by first | exact H | exact H.drop | exact H.drop.drop | exact H.dropL | exact H.drop.dropL | exact H.dropL.drop | exact H.dropL.dropL | exact H.dropMid) (fun w H => Ev.iaSl (n := 40) (sz := 33) (m := i) (o := om + i * 33) rfl rfl rfl (by kernel_rfl) (by omega)) rfl ?_
    refine OpsD.take 4 rfl (by kernel_rfl) (by first | exact H | exact H.drop | exact H.drop.drop | exact H.dropL | exact H.drop.dropL | exact H.dropL.drop | exact H.dropL.dropL | exact H.dropMid) (fun w H => Ev.fieldAddr (o := 0) rfl (by kernel_rfl)) rfl ?_
    refine OpsD.take 5 rfl (by kernel_rfl) (by first | exact H | exact H.drop | exact H.drop.drop | exact H.dropL | exact H.drop.dropL | exact H.dropL.drop | exact H.dropL.dropL | exact H.dropMid) (fun w H => Ev.load (v := .int .i64 z) H rfl (by kernel_rfl) (hrdx 0 _ rfl)) rfl ?_
    refine OpsD.take 6 rfl (by kernel_rfl) (by first | exact H | exact H.drop | exact H.drop.drop | exact H.dropL | exact H.drop.dropL | exact H.dropL.drop | exact H.dropL.dropL | exact H.dropMid) (fun w H => Ev.move rfl) rfl ?_
    refine OpsD.take 7 rfl (by kernel_rfl) (by first | exact H | exact H.drop | exact H.drop.drop | exact H.dropL | exact H.drop.dropL | exact H.dropL.drop | exact H.dropL.dropL | exact H.dropMid) (fun w H => Ev.move rfl) rfl ?_
    refine OpsD.take 8 rfl (by kernel_rfl) (by first | exact H | exact H.drop | exact H.drop.drop | exact H.dropL | exact H.drop.dropL | exact H.dropL.drop | exact H.dropL.dropL | exact H.dropMid) (fun w H => Ev.iaSl (n := 40) (sz := 33) (m := i) (o := om + i * 33) rfl rfl rfl (by kernel_rfl) (by omega)) rfl ?_
    refine OpsD.take 9 rfl (by kernel_rfl) (by first | exact H | exact H.drop | exact H.drop.drop | exact H.dropL | exact H.drop.dropL | exact H.dropL.drop | exact H.dropL.dropL | exact H.dropMid) (fun w H => Ev.fieldAddr (o := 1) rfl (by kernel_rfl)) rfl ?_
    refine OpsD.take 10 rfl (by kernel_rfl) (by first | exact H | exact H.drop | exact H.drop.drop | exact H.dropL | exact H.drop.dropL | exact H.dropL.drop | exact H.dropL.dropL | exact H.dropMid) (fun w H => Ev.loadAgg (vs := gH h) H rfl (by rw [gH_len]; kernel_rfl) (fun j v hj => by rw [add_none, Nat.add_assoc, Nat.add_comm 1 j]; exact hrdx (j + 1) v (by simpa using hj))) rfl ?_
    refine OpsD.take 12 rfl (by kernel_rfl) (by first | exact H | exact H.drop | exact H.drop.drop | exact H.dropL | exact H.drop.dropL | exact H.dropL.drop | exact H.dropL.dropL | exact H.dropMid) (fun w H => Ev.move rfl) rfl ?_
    refine OpsD.one 11 (by kernel_rfl) (StepD.ex rfl (Ex.call rfl Tryd.call17 (has_spec b L hS h z B w _ hB H.swapL)) rfl ?_); (try clear H); rintro _ w ⟨rfl, H⟩; replace H := H.swapL; refine ⟨(by first | exact H | exact H.drop | exact H.drop.drop | exact H.dropL | exact H.drop.dropL | exact H.dropL.drop | exact H.dropL.dropL | exact H.dropMid), ?_⟩
    refine OpsD.take 13 rfl (by kernel_rfl) (by first | exact H | exact H.drop | exact H.drop.drop | exact H.dropL | exact H.drop.dropL | exact H.dropL.drop | exact H.dropL.dropL | exact H.dropMid) (fun w H => Ev.boolNe (r := false) rfl rfl Tryd.underlying4 (by simp)) rfl ?_
    refine OpsD.done (by kernel_rfl) ?_
    repeat refine RunsE.seq ?_
    refine RunsE.no rfl ?_
    refine RunsE.skip ?_
    refine RunsE.inBlock ?_
    repeat (first | refine RunsE.seq ?_ | refine RunsE.skip ?_ | refine RunsE.block ?_ | refine RunsE.inBlock ?_ | refine RunsE.yes rfl ?_ | refine RunsE.no rfl ?_ | refine RunsE.exit rfl ?_)
    refine RunsE.region ?_
    refine OpsE.ev (Ev.move rfl) rfl ?_
    refine OpsE.ev (Ev.add rfl rfl) rfl ?_
    refine OpsE.ev (Ev.assign rfl) rfl ?_
    refine OpsE.nil ?_
    exact nextL (i + 1) _ _ (by omega) ⟨by omega, H⟩ ⟨rfl, rfl, rfl, rfl, rfl, trivial⟩
  clear H
  rintro _ w H
  repeat (first | refine RunsE.seq ?_ | refine RunsE.skip ?_ | refine RunsE.block ?_ | refine RunsE.inBlock ?_ | refine RunsE.yes rfl ?_ | refine RunsE.no rfl ?_ | refine RunsE.exit rfl ?_)
  refine RunsE.region ?_
  refine OpsE.ev (Ev.move rfl) rfl ?_
  refine OpsE.ex (Ex.call rfl Tryd.call15 (len_spec b L hS (by omega) B w _ hB H.swapL)) rfl ?_; (try clear H); rintro _ w ⟨rfl, H⟩
  refine OpsE.ev (Ev.move rfl) rfl ?_
  refine OpsE.ev (Ev.eql (r := true) rfl rfl (beq_iff_eq.2 rfl)) rfl ?_
  refine OpsE.ev (Ev.move rfl) rfl ?_
  first | (refine OpsE.yes rfl rfl ?_; refine OpsE.ex (Ex.call rfl Tryd.call8 (sure_spec w _ hE.right.right.right H)) rfl ?_; (try clear H); rintro _ w ⟨rfl, H⟩) | refine OpsE.no rfl rfl rfl ?_ | refine OpsE.off rfl rfl rfl ?_
  refine OpsE.ev ((by first | exact Ev.pickT rfl rfl | exact Ev.pickF rfl rfl)) rfl ?_
  refine OpsE.ev (Ev.assign rfl) rfl ?_
  refine OpsE.nil ?_
  repeat (first | refine RunsE.seq ?_ | refine RunsE.skip ?_ | refine RunsE.block ?_ | refine RunsE.inBlock ?_ | refine RunsE.yes rfl ?_ | refine RunsE.no rfl ?_ | refine RunsE.exit rfl ?_)
  exact RunsE.ret1 Tryd.func5 rfl rfl ⟨rfl, H.dropL.dropL.dropL⟩

end Go.Proofs.YtniihnncgblocaaDoor
