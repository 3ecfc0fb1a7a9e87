/-
  The proof's parts, in one file: PagesD, VAgg, Num, NumS, ShZ5, ShZ6, ShL0, Bulk, ShIn, Err, KnobE.
-/
import Derived.Test.YtflfaiakenahlaaGreatDoorM7
import Derived.ChangeKeysEq
import Derived.Test.YtflfaiakenahlaaGreatDoorM1
import Derived.Test.YtflfaiakenahlaaGreatDoorProg
import Derived.WalkKit
import Derived.LaidEql
import Derived.Stop.Asserts
import Derived.RowKitTokens
import Derived.Test.YtflfaiakenahlaaGreatDoorM2
import Derived.Test.YtflfaiakenahlaaGreatDoorM10
import Derived.Test.YtflfaiakenahlaaGreatDoorM3
import Derived.Test.YtflfaiakenahlaaGreatDoorRows
import Derived.Deep.Strs
import Derived.LaidHandle
import Derived.Test.YtflfaiakenahlaaGreatDoorCards
import Derived.Test.YtflfaiakenahlaaGreatDoorTie

section
/-
  Arm and Down.
-/
namespace Go.Proofs.YtflfaiakenahlaaGreatDoor
open Go.Proofs.YtflfaiakenahlaaGreatDoor.V

theorem narm_spec [Strm] (n : Int) (w : World) (F : List (Nat × Obj)) (H : SL w F) : Does Tryz.prog 26 #[.pointer none, .int .i64 n] w fun r w' => r = EV 1 ∧ SL w' F := by
  refine Does.intro (args := [_, _]) (e := [(0, _), (1, _)]) Tryz.func26 rfl Tryz.ntmps26 rfl rfl ?_
  repeat (first | refine .seq ?_ | refine .skip ?_ | refine .block ?_ | refine .inBlock ?_ | refine .yes rfl ?_ | refine .no rfl ?_ | refine .exit rfl ?_)
  repeat (first | refine .seq ?_ | refine .skip ?_ | refine .block ?_ | refine .inBlock ?_ | refine .yes rfl ?_ | refine .no rfl ?_ | refine .exit rfl ?_)
  refine RunsE.region ?_
  refine OpsE.ev (Ev.assign rfl) rfl ?_
  refine OpsE.nil ?_
  repeat (first | refine .seq ?_ | refine .skip ?_ | refine .block ?_ | refine .inBlock ?_ | refine .yes rfl ?_ | refine .no rfl ?_ | refine .exit rfl ?_)
  refine RunsE.region ?_
  refine OpsE.ev (Ev.move rfl) rfl ?_
  refine OpsE.ev (Ev.ptrNilEq (el := 75) rfl rfl (by kernel_rfl)) rfl ?_
  refine OpsE.ev (Ev.move rfl) rfl ?_
  first | (refine OpsE.yes rfl rfl ?_; refine OpsE.ev (Ev.move rfl) rfl ?_) | refine OpsE.no rfl rfl rfl ?_ | refine OpsE.off rfl rfl rfl ?_
  first | (refine OpsE.yes rfl rfl ?_; refine OpsE.ev (Ev.lss rfl rfl rfl) rfl ?_) | refine OpsE.no rfl rfl rfl ?_ | refine OpsE.off rfl rfl rfl ?_
  refine OpsE.ev ((by first | exact Ev.pickT rfl rfl | exact Ev.pickF rfl rfl)) rfl ?_
  refine OpsE.nil ?_
  repeat (first | refine .seq ?_ | refine .skip ?_ | refine .block ?_ | refine .inBlock ?_ | refine .yes rfl ?_ | refine .no rfl ?_ | refine .exit rfl ?_)
  refine RunsE.region ?_
  refine OpsE.ev (Ev.makeInterface (d := (.int .i64)) rfl (by kernel_rfl) rfl) rfl ?_
  refine OpsE.ev (Ev.assign rfl) rfl ?_
  refine OpsE.nil ?_
  repeat (first | refine .seq ?_ | refine .skip ?_ | refine .block ?_ | refine .inBlock ?_ | refine .yes rfl ?_ | refine .no rfl ?_ | refine .exit rfl ?_)
  exact RunsE.ret1 Tryz.func26 rfl rfl ⟨rfl, H⟩

theorem arm_bad [Strm] (n : Int) (hn : n < 0) (b : Nat) (A : List (Nat × Obj)) (w : World) (F : List (Nat × Obj)) (H : SL w (A ++ F)) :
    Does Tryz.prog 26 #[.pointer (some ⟨b, 0, none⟩), .int .i64 n] w fun r w' => r = EV 1 ∧ SL w' (A ++ F) := by
  refine Does.intro (args := [_, _]) (e := [(0, _), (1, _)]) Tryz.func26 rfl Tryz.ntmps26 rfl rfl ?_
  repeat (first | refine .seq ?_ | refine .skip ?_ | refine .block ?_ | refine .inBlock ?_ | refine .yes rfl ?_ | refine .no rfl ?_ | refine .exit rfl ?_)
  repeat (first | refine .seq ?_ | refine .skip ?_ | refine .block ?_ | refine .inBlock ?_ | refine .yes rfl ?_ | refine .no rfl ?_ | refine .exit rfl ?_)
  refine RunsE.region ?_
  refine OpsE.ev (Ev.assign rfl) rfl ?_
  refine OpsE.nil ?_
  repeat (first | refine .seq ?_ | refine .skip ?_ | refine .block ?_ | refine .inBlock ?_ | refine .yes rfl ?_ | refine .no rfl ?_ | refine .exit rfl ?_)
  refine RunsE.region ?_
  refine OpsE.ev (Ev.move rfl) rfl ?_
  refine OpsE.ev (Ev.ptrNilEq (el := 75) rfl rfl (by kernel_rfl)) rfl ?_
  refine OpsE.ev (Ev.move rfl) rfl ?_
  first | (refine OpsE.yes rfl rfl ?_; refine OpsE.ev (Ev.move rfl) rfl ?_) | refine OpsE.no rfl rfl rfl ?_ | refine OpsE.off rfl rfl rfl ?_
  first | (refine OpsE.yes rfl rfl ?_; refine OpsE.ev (Ev.lss (r := true) rfl rfl (decide_eq_true hn)) rfl ?_) | refine OpsE.no rfl rfl rfl ?_ | refine OpsE.off rfl rfl rfl ?_
  refine OpsE.ev ((by first | exact Ev.pickT rfl rfl | exact Ev.pickF rfl rfl)) rfl ?_
  refine OpsE.nil ?_
  repeat (first | refine .seq ?_ | refine .skip ?_ | refine .block ?_ | refine .inBlock ?_ | refine .yes rfl ?_ | refine .no rfl ?_ | refine .exit rfl ?_)
  refine RunsE.region ?_
  refine OpsE.ev (Ev.makeInterface (d := (.int .i64)) rfl (by kernel_rfl) rfl) rfl ?_
  refine OpsE.ev (Ev.assign rfl) rfl ?_
  refine OpsE.nil ?_
  repeat (first | refine .seq ?_ | refine .skip ?_ | refine .block ?_ | refine .inBlock ?_ | refine .yes rfl ?_ | refine .no rfl ?_ | refine .exit rfl ?_)
  exact RunsE.ret1 Tryz.func26 rfl rfl ⟨rfl, H⟩

theorem arm_spec [Strm] (s : St) (n : Nat) (hn : n ≤ 9223372036854775807) (b : Nat) (A : List (Nat × Obj)) (w : World) (F : List (Nat × Obj)) (hA : HoldS b s A) (H : SL w (A ++ F)) :
    Does Tryz.prog 26 #[.pointer (some ⟨b, 0, none⟩), .int .i64 (n : Int)] w fun r w' => ∃ A', r = .nilIface ∧ HoldS b (s.arm n) A' ∧ SL w' (A' ++ F) := by
  obtain ⟨rb, pv, qv, ql, Bq, D, hp, hq, hQ, ok⟩ := hA
  rw [List.cons_append] at H
  refine Does.intro (args := [_, _]) (e := [(0, _), (1, _)]) Tryz.func26 rfl Tryz.ntmps26 rfl rfl ?_
  repeat (first | refine .seq ?_ | refine .skip ?_ | refine .block ?_ | refine .inBlock ?_ | refine .yes rfl ?_ | refine .no rfl ?_ | refine .exit rfl ?_)
  repeat (first | refine .seq ?_ | refine .skip ?_ | refine .block ?_ | refine .inBlock ?_ | refine .yes rfl ?_ | refine .no rfl ?_ | refine .exit rfl ?_)
  refine RunsE.region ?_
  refine OpsE.ev (Ev.assign rfl) rfl ?_
  refine OpsE.nil ?_
  repeat (first | refine .seq ?_ | refine .skip ?_ | refine .block ?_ | refine .inBlock ?_ | refine .yes rfl ?_ | refine .no rfl ?_ | refine .exit rfl ?_)
  refine RunsE.region ?_
  refine OpsE.ev (Ev.move rfl) rfl ?_
  refine OpsE.ev (Ev.ptrNilEq (el := 75) rfl rfl (by kernel_rfl)) rfl ?_
  refine OpsE.ev (Ev.move rfl) rfl ?_
  first | (refine OpsE.yes rfl rfl ?_; refine OpsE.ev (Ev.move rfl) rfl ?_) | refine OpsE.no rfl rfl rfl ?_ | refine OpsE.off rfl rfl rfl ?_
  first | (refine OpsE.yes rfl rfl ?_; refine OpsE.ev (Ev.lss (r := false) rfl rfl (decide_eq_false (by omega))) rfl ?_) | refine OpsE.no rfl rfl rfl ?_ | refine OpsE.off rfl rfl rfl ?_
  refine OpsE.ev ((by first | exact Ev.pickT rfl rfl | exact Ev.pickF rfl rfl)) rfl ?_
  refine OpsE.nil ?_
  repeat (first | refine .seq ?_ | refine .skip ?_ | refine .block ?_ | refine .inBlock ?_ | refine .yes rfl ?_ | refine .no rfl ?_ | refine .exit rfl ?_)
  refine RunsE.region ?_
  refine OpsE.ev (Ev.move rfl) rfl ?_
  refine OpsE.ev (Ev.move rfl) rfl ?_
  refine OpsE.ev (Ev.move rfl) rfl ?_
  refine OpsE.ev (Ev.nilCheck rfl) rfl ?_
  refine OpsE.ev (Ev.fieldAddr (o := 2) rfl (by kernel_rfl)) rfl ?_
  refine OpsE.exn (Ex.store1 H rfl rfl (by kernel_rfl) rfl u0 (by simp) (Thaw.zero _ _) rfl) ?_; (try clear H); intro _ w H
  refine OpsE.ev (Ev.nilCheck rfl) rfl ?_
  refine OpsE.ev (Ev.fieldAddr (o := 3) rfl (by kernel_rfl)) rfl ?_
  refine OpsE.exn (Ex.store1 H rfl rfl (by kernel_rfl) rfl u0 (by simp) (Thaw.zero _ _) rfl) ?_; (try clear H); intro _ w H
  refine OpsE.nil ?_
  repeat (first | refine .seq ?_ | refine .skip ?_ | refine .block ?_ | refine .inBlock ?_ | refine .yes rfl ?_ | refine .no rfl ?_ | refine .exit rfl ?_)
  refine RunsE.region ?_
  refine OpsE.ev (Ev.assign rfl) rfl ?_
  refine OpsE.nil ?_
  repeat (first | refine .seq ?_ | refine .skip ?_ | refine .block ?_ | refine .inBlock ?_ | refine .yes rfl ?_ | refine .no rfl ?_ | refine .exit rfl ?_)
  exact RunsE.ret1 Tryz.func26 rfl rfl ⟨_, rfl, .mk rb pv qv ql Bq D hp hq hQ ⟨ok.1, ok.2, ok.3, ok.4, hn⟩, H⟩

theorem ndown_spec [Strm] (w : World) (F : List (Nat × Obj)) (H : SL w F) : Does Tryz.prog 27 #[.pointer none] w fun r w' => r = .bool false ∧ SL w' F := by
  refine Does.intro (args := [_]) (e := [(0, _)]) Tryz.func27 rfl Tryz.ntmps27 rfl rfl ?_
  repeat (first | refine .seq ?_ | refine .skip ?_ | refine .block ?_ | refine .inBlock ?_ | refine .yes rfl ?_ | refine .no rfl ?_ | refine .exit rfl ?_)
  repeat (first | refine .seq ?_ | refine .skip ?_ | refine .block ?_ | refine .inBlock ?_ | refine .yes rfl ?_ | refine .no rfl ?_ | refine .exit rfl ?_)
  refine RunsE.region ?_
  refine OpsE.ev (Ev.assign rfl) rfl ?_
  refine OpsE.nil ?_
  repeat (first | refine .seq ?_ | refine .skip ?_ | refine .block ?_ | refine .inBlock ?_ | refine .yes rfl ?_ | refine .no rfl ?_ | refine .exit rfl ?_)
  refine RunsE.region ?_
  refine OpsE.ev (Ev.move rfl) rfl ?_
  refine OpsE.ev (Ev.ptrNilNe (el := 75) rfl rfl (by kernel_rfl)) rfl ?_
  refine OpsE.ev (Ev.move rfl) rfl ?_
  first | (refine OpsE.yes rfl rfl ?_; refine OpsE.ev (Ev.move rfl) rfl ?_) | refine OpsE.no rfl rfl rfl ?_ | refine OpsE.off rfl rfl rfl ?_
  first | (refine OpsE.yes rfl rfl ?_; refine OpsE.ev (Ev.nilCheck rfl) rfl ?_) | refine OpsE.no rfl rfl rfl ?_ | refine OpsE.off rfl rfl rfl ?_
  first | (refine OpsE.yes rfl rfl ?_; refine OpsE.ev (Ev.fieldAddr (o := 4) rfl (by kernel_rfl)) rfl ?_) | refine OpsE.no rfl rfl rfl ?_ | refine OpsE.off rfl rfl rfl ?_
  first | (refine OpsE.yes rfl rfl ?_; refine OpsE.ev (Ev.load H rfl (by kernel_rfl) (by first | exact Rd.mk m0 rfl | exact Rd.mk m1 rfl | exact Rd.mk m2 rfl | exact Rd.mk m3 rfl | assumption)) rfl ?_) | refine OpsE.no rfl rfl rfl ?_ | refine OpsE.off rfl rfl rfl ?_
  refine OpsE.ev ((by first | exact Ev.pickT rfl rfl | exact Ev.pickF rfl rfl)) rfl ?_
  refine OpsE.ev (Ev.assign rfl) rfl ?_
  refine OpsE.nil ?_
  repeat (first | refine .seq ?_ | refine .skip ?_ | refine .block ?_ | refine .inBlock ?_ | refine .yes rfl ?_ | refine .no rfl ?_ | refine .exit rfl ?_)
  exact RunsE.ret1 Tryz.func27 rfl rfl ⟨rfl, H⟩

theorem down_spec [Strm] (s : St) (b : Nat) (A : List (Nat × Obj)) (w : World) (F : List (Nat × Obj)) (hA : HoldS b s A) (H : SL w (A ++ F)) :
    Does Tryz.prog 27 #[.pointer (some ⟨b, 0, none⟩)] w fun r w' => r = .bool s.down ∧ SL w' (A ++ F) := by
  obtain ⟨rb, pv, qv, ql, Bq, D, hp, hq, hQ, ok⟩ := hA
  rw [List.cons_append] at H ⊢
  refine Does.intro (args := [_]) (e := [(0, _)]) Tryz.func27 rfl Tryz.ntmps27 rfl rfl ?_
  repeat (first | refine .seq ?_ | refine .skip ?_ | refine .block ?_ | refine .inBlock ?_ | refine .yes rfl ?_ | refine .no rfl ?_ | refine .exit rfl ?_)
  repeat (first | refine .seq ?_ | refine .skip ?_ | refine .block ?_ | refine .inBlock ?_ | refine .yes rfl ?_ | refine .no rfl ?_ | refine .exit rfl ?_)
  refine RunsE.region ?_
  refine OpsE.ev (Ev.assign rfl) rfl ?_
  refine OpsE.nil ?_
  repeat (first | refine .seq ?_ | refine .skip ?_ | refine .block ?_ | refine .inBlock ?_ | refine .yes rfl ?_ | refine .no rfl ?_ | refine .exit rfl ?_)
  refine RunsE.region ?_
  refine OpsE.ev (Ev.move rfl) rfl ?_
  refine OpsE.ev (Ev.ptrNilNe (el := 75) rfl rfl (by kernel_rfl)) rfl ?_
  refine OpsE.ev (Ev.move rfl) rfl ?_
  first | (refine OpsE.yes rfl rfl ?_; refine OpsE.ev (Ev.move rfl) rfl ?_) | refine OpsE.no rfl rfl rfl ?_ | refine OpsE.off rfl rfl rfl ?_
  first | (refine OpsE.yes rfl rfl ?_; refine OpsE.ev (Ev.nilCheck rfl) rfl ?_) | refine OpsE.no rfl rfl rfl ?_ | refine OpsE.off rfl rfl rfl ?_
  first | (refine OpsE.yes rfl rfl ?_; refine OpsE.ev (Ev.fieldAddr (o := 4) rfl (by kernel_rfl)) rfl ?_) | refine OpsE.no rfl rfl rfl ?_ | refine OpsE.off rfl rfl rfl ?_
  first | (refine OpsE.yes rfl rfl ?_; refine OpsE.ev (Ev.load H rfl (by kernel_rfl) (by first | exact Rd.mk m0 rfl | exact Rd.mk m1 rfl | exact Rd.mk m2 rfl | exact Rd.mk m3 rfl | assumption)) rfl ?_) | refine OpsE.no rfl rfl rfl ?_ | refine OpsE.off rfl rfl rfl ?_
  refine OpsE.ev ((by first | exact Ev.pickT rfl rfl | exact Ev.pickF rfl rfl)) rfl ?_
  refine OpsE.ev (Ev.assign rfl) rfl ?_
  refine OpsE.nil ?_
  repeat (first | refine .seq ?_ | refine .skip ?_ | refine .block ?_ | refine .inBlock ?_ | refine .yes rfl ?_ | refine .no rfl ?_ | refine .exit rfl ?_)
  exact RunsE.ret1 Tryz.func27 rfl rfl ⟨rfl, H⟩

end Go.Proofs.YtflfaiakenahlaaGreatDoor
end

section
/-
  The engine: arrays of bytes that are values: equal or not; a slice as an array.
-/
namespace Go.Proofs.YtflfaiakenahlaaGreatDoor.V

section
variable {P : Program} {w : World} {e : Env} {ty t t2 : TypeId} {x y z : Operand} {v u : Value} {L L' B : List (Nat × Obj)}

theorem run_eqItems_bytes {d : Nat} {el : TypeId} {k : IntKind} (hu : P.underlying el = some (.int k)) (hc : P.cellsOf el = 1) (xs ys : List Int) : ∀ (is : List Nat), (∀ i ∈ is, i < xs.length ∧ i < ys.length) →
    (Op.eqItems (d + 1) el (P.cellsOf el) (xs.map (.int k)).toArray (ys.map (.int k)).toArray is).run P w = .ok (is.all fun i => xs[i]? == ys[i]?) w
  | [], _ => by simp [Op.eqItems]
  | i :: is, h => by
    obtain ⟨h1, h2⟩ := h i (.head _)
    have hp : P.plainKey el = true := by simp [Program.plainKey, hu]
    have e1 := run_part_plain w hp (xs := (xs.map (Value.int k)).toArray) (off := i) (v := .int k xs[i]) (by simp [h1])
    have e2 := run_part_plain w hp (xs := (ys.map (Value.int k)).toArray) (off := i) (v := .int k ys[i]) (by simp [h2])
    have e3 : (Op.equalIn (d + 1) el (.int k xs[i]) (.int k ys[i])).run P w = .ok (xs[i] == ys[i]) w := by
      simp [Op.equalIn, run_underlying hu]
    have ih := run_eqItems_bytes (d := d) hu hc xs ys is fun j hj => h j (.tail _ hj)
    have e4 : (xs[i]? == ys[i]?) = (xs[i] == ys[i]) := by simp [h1, h2]
    simp only [Op.eqItems, Sem.run_bind, hc, Nat.mul_one, e1, e2, e3, Result.andThen, List.all_cons, e4] at ih ⊢
    cases hq : (xs[i] == ys[i])
    · simp
    · simpa using ih

theorem run_equal_bytes {el n : Nat} {k : IntKind} {inf : TypeInfo} (ht : P.underlying t = some (.array n el)) (hu : P.underlying el = some (.int k)) (hi : P.info? el = some inf) (hs : inf.size = 1)
    {xs ys : List Int} (hx : xs.length = n) (hy : ys.length = n) : (Op.equal t (.agg (xs.map (.int k)).toArray) (.agg (ys.map (.int k)).toArray)).run P w = .ok (xs == ys) w := by
  have hc : P.cellsOf el = 1 := by simp [Program.cellsOf, hi, hs]
  have h1 := run_equalIn_array (P := P) w 9999 (t := t) (e := el) (n := n) (i := inf) (xs.map (.int k)).toArray (ys.map (.int k)).toArray ht hi
  have h2 := run_eqItems_bytes (P := P) (w := w) (d := 9998) hu hc xs ys (List.range n) fun i h => by have := List.mem_range.1 h; omega
  show (Op.equalIn 10000 t _ _).run P w = _
  rw [h1, h2]
  congr 1
  rw [Bool.eq_iff_iff, beq_iff_eq, List.all_eq_true]
  constructor
  · intro h
    apply List.ext_getElem?
    intro i
    by_cases hin : i < n
    · simpa using h i (List.mem_range.2 hin)
    · rw [List.getElem?_eq_none (by omega), List.getElem?_eq_none (by omega)]
  · rintro rfl i _
    simp

theorem bv_map (xs : List UInt8) : (xs.map fun b => (b.toNat : Int)).map (Value.int .u8) = xs.map BV := by simp [List.map_map, Function.comp_def]

theorem bv_eq (xs ys : List UInt8) : ((xs.map fun b => (b.toNat : Int)) == (ys.map fun b => (b.toNat : Int))) = (xs == ys) := by
  rw [Bool.eq_iff_iff, beq_iff_eq, beq_iff_eq]
  constructor
  · intro h
    refine (List.map_inj_right ?_).1 h
    intro a b h
    have : a.toNat = b.toNat := by omega
    exact UInt8.toNat_inj.1 this
  · rintro rfl; rfl

/-- What an array of bytes is. -/
structure BytesT (P : Program) (t : TypeId) (n : Nat) : Prop where
  ok : ∃ el inf, P.underlying t = some (.array n el) ∧ P.underlying el = some (.int .u8) ∧ P.info? el = some inf ∧ inf.size = 1 ∧ P.eqGuardType P.depth t = false

def bytesArr (P : Program) (t : TypeId) : Option Nat := match P.underlying t with
  | some (.array n el) => match P.underlying el, P.info? el with
    | some (.int .u8), some inf => bif Nat.beq inf.size 1 && !(P.eqGuardType P.depth t) then some n else none
    | _, _ => none
  | _ => none

theorem bytesArr_spec {n : Nat} (h : bytesArr P t = some n) : BytesT P t n := by
  unfold bytesArr at h
  split at h
  · rename_i n' el h1
    split at h
    · rename_i inf h2 h3
      cases hs : Nat.beq inf.size 1 with
      | false => rw [hs] at h; simp at h
      | true =>
        rw [hs] at h
        cases hg : P.eqGuardType P.depth t with
        | true => rw [hg] at h; simp at h
        | false =>
          rw [hg] at h
          simp at h
          subst h
          exact ⟨el, inf, h1, h2, h3, Nat.eq_of_beq_eq_true hs, hg⟩
    · cases h
  · cases h

theorem Ev.bytesEq {n : Nat} {xs ys : List UInt8} {t' : TypeId} (hx : e.val x = some (.agg (xs.map BV).toArray)) (hy : e.val y = some (.agg (ys.map BV).toArray)) (ht : bytesArr P t = some n) (h1 : xs.length = n) (h2 : ys.length = n) :
    Ev P w e (.binOp .eql t x y t') ty (.bool (xs == ys)) := .of fun ρ hρ _ _ _ _ => by
  obtain ⟨el, inf, a1, a2, a3, a4, a5⟩ := bytesArr_spec ht
  have h := run_equal_bytes (P := P) (w := w) a1 a2 a3 a4 (xs := xs.map fun b => (b.toNat : Int)) (ys := ys.map fun b => (b.toNat : Int)) (by simp [h1]) (by simp [h2])
  rw [bv_map, bv_map, bv_eq] at h
  simp [execOp, hρ _ _ hx, hρ _ _ hy, eqGuard, a5, binOp, h]

theorem Ev.bytesNe {n : Nat} {xs ys : List UInt8} {t' : TypeId} (hx : e.val x = some (.agg (xs.map BV).toArray)) (hy : e.val y = some (.agg (ys.map BV).toArray)) (ht : bytesArr P t = some n) (h1 : xs.length = n) (h2 : ys.length = n) :
    Ev P w e (.binOp .neq t x y t') ty (.bool (!(xs == ys))) := .of fun ρ hρ _ _ _ _ => by
  obtain ⟨el, inf, a1, a2, a3, a4, a5⟩ := bytesArr_spec ht
  have h := run_equal_bytes (P := P) (w := w) a1 a2 a3 a4 (xs := xs.map fun b => (b.toNat : Int)) (ys := ys.map fun b => (b.toNat : Int)) (by simp [h1]) (by simp [h2])
  rw [bv_map, bv_map, bv_eq] at h
  simp [execOp, hρ _ _ hx, hρ _ _ hy, eqGuard, a5, binOp, h]

theorem Ev.minN {k k' : IntKind} {a b c : Int} {ats : Array TypeId} (hx : e.val x = some (.int k a)) (hy : e.val y = some (.int k' b)) (hc : c = if b < a then b else a) :
    Ev P w e (.call ⟨.builtin .min, #[x, y], ats⟩) ty (.int k c) := by
  rw [hc]; exact Ev.min hx hy

/-- A slice as an array: where it lies. -/
theorem Ev.slArrPtr {n len c : Nat} {el : TypeId} {a : Option Addr} (hx : e.val x = some (.slice a len c)) (ht : P.underlying t = some (.array n el)) (hn : n ≤ len) : Ev P w e (.sliceToArrayPointer t x) ty (.pointer a) := .of fun ρ hρ _ _ _ _ => by
  have : ¬ len < n := by omega
  simp [execOp, hρ _ _ hx, Instr.arrayAt, run_underlying ht, this]

end
end Go.Proofs.YtflfaiakenahlaaGreatDoor.V
end

section
/-
  errors.As at the program's own kind of error (a number of the type api.Errno): Go's own text of errors.As and errors.as is walked (after the library's worked text ToyasAs); then what the statement's 'num' answers.
-/
namespace Go.Proofs.YtflfaiakenahlaaGreatDoor
open Go.RowKit Go.Extern.Stop Go.Stop Go.Extern

/-! ### Closed facts on the model's entries for internal/reflectlite, at this program's types -/
theorem num_valueOfP (t : Addr) (w : World) : (ReflectliteValue.unpack (.iface 92 (.pointer (some t)))).run Tryz.prog w
    = .ok (.agg #[.pointer (some ⟨1, 92, none⟩), .pointer (some ⟨w.heap.size, 0, none⟩), .int .u64 150]) (w.alloc (.cells #[.pointer (some t)] 92)) := by kernel_rfl
theorem num_typeP (a : Addr) (w : World) : (ReflectliteValue.methodAny (ReflectliteValue.valueError "reflectlite.Value.Type" 0) (fun t _ _ _ => ReflectliteType.toType t) #[.agg #[.pointer (some ⟨1, 92, none⟩), .pointer (some a), .int .u64 150]]).run Tryz.prog w
    = .ok (.iface 167 (.agg #[.pointer (some ⟨1, 92, none⟩)])) w := by kernel_rfl
theorem num_methodKind (h : Value) (w : World) : (Go.method 345 167 (.agg #[h]) "Kind").run Tryz.prog w = .ok (154, h) w := by kernel_rfl
theorem num_kindP (w : World) : ((ReflectliteType.abiMethod fun t => (fun a : Nat => Value.int IntKind.u8 (a : Int)) <$> Rtype.kind t) #[.pointer (some ⟨1, 92, none⟩)]).run Tryz.prog w = .ok (.int .u8 22) w := by kernel_rfl
theorem num_kindT (w : World) : ((ReflectliteType.abiMethod fun t => (fun a : Nat => Value.int IntKind.u8 (a : Int)) <$> Rtype.kind t) #[.pointer (some ⟨1, 72, none⟩)]).run Tryz.prog w = .ok (.int .u8 2) w := by kernel_rfl

theorem rlm (z : Sem Value) (f : TypeId → Addr → Nat → Nat → Sem Value) (v : Value) :
    ReflectliteValue.method z f #[v] = (do match ← ReflectliteValue.parts v with | none => z | some (t, a, fl) => f t a fl (fl % 32)) := rfl
theorem num_partsP (a : Addr) (w : World) : (ReflectliteValue.parts (.agg #[.pointer (some ⟨1, 92, none⟩), .pointer (some a), .int .u64 150])).run Tryz.prog w = .ok (some (92, a, 150)) w := by kernel_rfl
theorem num_isNil (a p : Addr) (W : World) (ha : W.cell? a = some (.pointer (some p))) :
    (ReflectliteValue.method (ReflectliteValue.valueError "reflectlite.Value.IsNil" 0) ReflectliteValue.isNil #[.agg #[.pointer (some ⟨1, 92, none⟩), .pointer (some a), .int .u64 150]]).run Tryz.prog W = .ok (.bool false) W := by
  rw [rlm]
  simp only [Sem.run_bind, num_partsP, Result.andThen]
  simp [ReflectliteValue.isNil, loadVar, isAgg, underlying, ha, Result.andThen]

theorem num_methodElem (h : Value) (w : World) : (Go.method 345 167 (.agg #[h]) "Elem").run Tryz.prog w = .ok (165, .agg #[h]) w := by kernel_rfl
theorem num_methodImplements (h : Value) (w : World) : (Go.method 345 167 (.agg #[h]) "Implements").run Tryz.prog w = .ok (166, .agg #[h]) w := by kernel_rfl
theorem num_methodAssignableTo (h : Value) (w : World) : (Go.method 345 167 (.agg #[h]) "AssignableTo").run Tryz.prog w = .ok (163, .agg #[h]) w := by kernel_rfl
theorem num_elemP (w : World) : (ReflectliteType.method ReflectliteType.elem #[.agg #[.pointer (some ⟨1, 92, none⟩)]]).run Tryz.prog w = .ok (.iface 167 (.agg #[.pointer (some ⟨1, 72, none⟩)])) w := by kernel_rfl
theorem num_implements (w : World) : (ReflectliteType.relation "Implements" ReflectliteType.implements_ #[.agg #[.pointer (some ⟨1, 72, none⟩)], .iface 167 (.agg #[.pointer (some ⟨1, 26, none⟩)])]).run Tryz.prog w = .ok (.bool true) w := by kernel_rfl
theorem num_typeOf (v : Value) (w : World) : (ReflectliteType.typeOf #[.iface 72 v]).run Tryz.prog w = .ok (.iface 167 (.agg #[.pointer (some ⟨1, 72, none⟩)])) w := by kernel_rfl
theorem num_assignable (w : World) : (ReflectliteType.relation "AssignableTo" ReflectliteType.assignableTo #[.agg #[.pointer (some ⟨1, 72, none⟩)], .iface 167 (.agg #[.pointer (some ⟨1, 72, none⟩)])]).run Tryz.prog w = .ok (.bool true) w := by kernel_rfl
theorem num_valueOfT (n : Int) (w : World) : (ReflectliteValue.unpack (.iface 72 (.int .i64 n))).run Tryz.prog w
    = .ok (.agg #[.pointer (some ⟨1, 72, none⟩), .pointer (some ⟨w.heap.size, 0, none⟩), .int .u64 130]) (w.alloc (.cells #[.int .i64 n] 72)) := by kernel_rfl
theorem num_elemOf (w : World) : (Rtype.elem? 92).run Tryz.prog w = .ok (some 72) w := by kernel_rfl
theorem num_mk (p : Addr) (w : World) : (ReflectliteValue.mk 72 p ReflectliteValue.flagAddr).run Tryz.prog w = .ok (.agg #[.pointer (some ⟨1, 72, none⟩), .pointer (some p), .int .u64 386]) w := by kernel_rfl
theorem num_elemV (a p : Addr) (W : World) (ha : W.cell? a = some (.pointer (some p))) :
    (ReflectliteValue.method (ReflectliteValue.valueError "reflectlite.Value.Elem" 0) ReflectliteValue.elem #[.agg #[.pointer (some ⟨1, 92, none⟩), .pointer (some a), .int .u64 150]]).run Tryz.prog W
      = .ok (.agg #[.pointer (some ⟨1, 72, none⟩), .pointer (some p), .int .u64 386]) W := by
  rw [rlm]
  simp only [Sem.run_bind, num_partsP, Result.andThen]
  simp [ReflectliteValue.elem, loadVar, isAgg, underlying, ha, Result.andThen, num_elemOf, num_mk]
theorem rls (v x : Value) : ReflectliteValue.set #[v, x] = (do
    let (some (dst, a, fl), some (src, b, _)) := (← ReflectliteValue.parts v, ← ReflectliteValue.parts x)
      | unsupported (.noEntry "extern/(internal/reflectlite.Value).Set.zeroValue")
    if fl / ReflectliteValue.flagAddr % 2 == 0 then unsupported (.noEntry "extern/(internal/reflectlite.Value).Set.unaddressable")
    let val ← loadVar src b
    if ← Rtype.directlyAssignable dst src then storeVar dst a val
    else if ← Rtype.implements dst src then
      if (← Rtype.kind src) == 20 then
        match val with
        | .nilIface => unsupported (.noEntry "extern/reflectlite: a nil value of one interface type handed on as a value of another")
        | _ => storeVar dst a val
      else storeVar dst a (.iface src val)
    else panicString ("reflectlite.Set: value of type " ++ (← Rtype.spelt src) ++ " is not assignable to type " ++ (← Rtype.spelt dst))
    pure (.tuple #[])) := rfl
theorem num_partsTa (a : Addr) (w : World) : (ReflectliteValue.parts (.agg #[.pointer (some ⟨1, 72, none⟩), .pointer (some a), .int .u64 386])).run Tryz.prog w = .ok (some (72, a, 386)) w := by kernel_rfl
theorem num_partsT (a : Addr) (w : World) : (ReflectliteValue.parts (.agg #[.pointer (some ⟨1, 72, none⟩), .pointer (some a), .int .u64 130])).run Tryz.prog w = .ok (some (72, a, 130)) w := by kernel_rfl
theorem num_direct (w : World) : (Rtype.directlyAssignable 72 72).run Tryz.prog w = .ok true w := by kernel_rfl
theorem num_set (ta b : Addr) (n : Int) (old : Value) (W : World) (hb : W.cell? b = some (.int .i64 n)) (ht : W.cell? ta = some old) (hf : W.frozen? ta = false) :
    (ReflectliteValue.set #[.agg #[.pointer (some ⟨1, 72, none⟩), .pointer (some ta), .int .u64 386], .agg #[.pointer (some ⟨1, 72, none⟩), .pointer (some b), .int .u64 130]]).run Tryz.prog W
      = .ok (.tuple #[]) (W.setCell ta (.int .i64 n)) := by
  rw [rls]
  simp only [Sem.run_bind, num_partsTa, num_partsT, Result.andThen]
  simp [ReflectliteValue.flagAddr, loadVar, isAgg, underlying, hb, Result.andThen, num_direct, storeVar, Value.cells, storeCells, Addr.add]
  rw [run_store Tryz.prog W ta _ _ (by rfl)]
  simp [ht, hf]

set_option maxHeartbeats 4000000 in
/-- errors.As at a number of the type api.Errno: true; the target holds it. -/
theorem as_hit (n : Int) (t : Addr) (old : Value) (w : World) (hg : w.cell? ⟨0, 0, none⟩ = some (.iface 167 (.agg #[.pointer (some ⟨1, 26, none⟩)]))) (ht0 : w.cell? t = some old) (hf0 : w.frozen? t = false) :
    Calls Tryz.prog 40 #[.iface 72 (.int .i64 n), .iface 92 (.pointer (some t))] w fun ev w' => ev = .returned (.bool true) ∧ w' = ((((w.alloc (.cells #[.pointer (some t)] 92)).alloc (.cells #[.pointer (some ⟨1, 92, none⟩), .pointer (some ⟨w.heap.size, 0, none⟩), .int .u64 150] 140)).alloc (.cells #[.pointer (some ⟨1, 92, none⟩), .pointer (some ⟨w.heap.size, 0, none⟩), .int .u64 150] 140)).alloc (.cells #[.int .i64 n] 72)).setCell t (.int .i64 n) := by
  have h6 := @run_callFunc_extern Tryz.prog 72 _ (fun args => ReflectliteValue.unpack (args.getD 0 (.tuple #[]))) Tryz.func72 (by kernel_rfl) (by kernel_rfl) (by kernel_rfl) (by kernel_rfl)
  have h7 := @run_callFunc_extern Tryz.prog 73 _ (ReflectliteValue.methodAny (ReflectliteValue.valueError "reflectlite.Value.Type" 0) (fun t _ _ _ => ReflectliteType.toType t)) Tryz.func73 (by kernel_rfl) (by kernel_rfl) (by kernel_rfl) (by kernel_rfl)
  have h8 := @run_callFunc_extern Tryz.prog 74 _ (ReflectliteValue.method (ReflectliteValue.valueError "reflectlite.Value.IsNil" 0) ReflectliteValue.isNil) Tryz.func74 (by kernel_rfl) (by kernel_rfl) (by kernel_rfl) (by kernel_rfl)
  have h27 := @run_callFunc_extern Tryz.prog 154 _ (ReflectliteType.abiMethod fun t => do pure (.int .u8 (← Rtype.kind t))) Tryz.func154 (by kernel_rfl) (by kernel_rfl) (by kernel_rfl) (by kernel_rfl)
  have h37 := @run_callFunc_extern Tryz.prog 165 _ (ReflectliteType.method ReflectliteType.elem) Tryz.func165 (by kernel_rfl) (by kernel_rfl) (by kernel_rfl) (by kernel_rfl)
  have h38 := @run_callFunc_extern Tryz.prog 166 _ (ReflectliteType.relation "Implements" ReflectliteType.implements_) Tryz.func166 (by kernel_rfl) (by kernel_rfl) (by kernel_rfl) (by kernel_rfl)
  have h10 := @run_callFunc_extern Tryz.prog 96 _ ReflectliteType.typeOf Tryz.func96 (by kernel_rfl) (by kernel_rfl) (by kernel_rfl) (by kernel_rfl)
  have h35 := @run_callFunc_extern Tryz.prog 163 _ (ReflectliteType.relation "AssignableTo" ReflectliteType.assignableTo) Tryz.func163 (by kernel_rfl) (by kernel_rfl) (by kernel_rfl) (by kernel_rfl)
  have h11 := @run_callFunc_extern Tryz.prog 97 _ (ReflectliteValue.method (ReflectliteValue.valueError "reflectlite.Value.Elem" 0) ReflectliteValue.elem) Tryz.func97 (by kernel_rfl) (by kernel_rfl) (by kernel_rfl) (by kernel_rfl)
  have h12 := @run_callFunc_extern Tryz.prog 98 _ ReflectliteValue.set Tryz.func98 (by kernel_rfl) (by kernel_rfl) (by kernel_rfl) (by kernel_rfl)
  have tO := num_typeOf
  have mA := num_methodAssignableTo
  have a25 := num_assignable
  have v25 := num_valueOfT
  have f6 := num_valueOfP
  have f7 := num_typeP
  have mK := num_methodKind
  have mE := num_methodElem
  have mI := num_methodImplements
  have k27 := num_kindP
  have k25 := num_kindT
  have e27 := num_elemP
  have i25 := num_implements
  have n8 := num_isNil ⟨w.heap.size, 0, none⟩ t ((w.alloc (.cells #[.pointer (some t)] 92)).alloc (.cells #[.pointer (some ⟨1, 92, none⟩), .pointer (some ⟨w.heap.size, 0, none⟩), .int .u64 150] 140)) (by simp)
  have hlt : 0 < w.heap.size := by
    rcases Nat.lt_or_ge 0 w.heap.size with h | h
    · exact h
    · simp [World.cell?, Array.getElem?_eq_none h] at hg
  have hg2 : ((w.alloc (.cells #[.pointer (some t)] 92)).alloc (.cells #[.pointer (some ⟨1, 92, none⟩), .pointer (some ⟨w.heap.size, 0, none⟩), .int .u64 150] 140)).cell? ⟨0, 0, none⟩ = some (.iface 167 (.agg #[.pointer (some ⟨1, 26, none⟩)])) := by
    rw [World.cell?_alloc_lt _ _ ⟨0, 0, none⟩ (by simp <;> omega), World.cell?_alloc_lt _ _ ⟨0, 0, none⟩ hlt]; exact hg
  have htl : t.block < w.heap.size := by
    rcases Nat.lt_or_ge t.block w.heap.size with h | h
    · exact h
    · simp [World.cell?, Array.getElem?_eq_none h] at ht0
  have el := num_elemV ⟨w.heap.size, 0, none⟩ t (((w.alloc (.cells #[.pointer (some t)] 92)).alloc (.cells #[.pointer (some ⟨1, 92, none⟩), .pointer (some ⟨w.heap.size, 0, none⟩), .int .u64 150] 140)).alloc (.cells #[.pointer (some ⟨1, 92, none⟩), .pointer (some ⟨w.heap.size, 0, none⟩), .int .u64 150] 140)) (by rw [World.cell?_alloc_lt _ _ ⟨w.heap.size, 0, none⟩ (by simp; omega)]; simp)
  have st := num_set t ⟨w.heap.size + 1 + 1 + 1, 0, none⟩ n old ((((w.alloc (.cells #[.pointer (some t)] 92)).alloc (.cells #[.pointer (some ⟨1, 92, none⟩), .pointer (some ⟨w.heap.size, 0, none⟩), .int .u64 150] 140)).alloc (.cells #[.pointer (some ⟨1, 92, none⟩), .pointer (some ⟨w.heap.size, 0, none⟩), .int .u64 150] 140)).alloc (.cells #[.int .i64 n] 72))
    (by rw [World.cell?_alloc_at _ _ _ _ (by simp)]; rfl)
    (by rw [World.cell?_alloc_lt _ _ t (by simp; omega), World.cell?_alloc_lt _ _ t (by simp; omega), World.cell?_alloc_lt _ _ t (by simp; omega), World.cell?_alloc_lt _ _ t htl]; exact ht0)
    (by rw [World.frozen?_alloc_old _ _ t (by simp; omega), World.frozen?_alloc_old _ _ t (by simp; omega), World.frozen?_alloc_old _ _ t (by simp; omega), World.frozen?_alloc_old _ _ t (Nat.ne_of_lt htl)]; exact hf0)
  go_enter Tryz.func40, Tryz.ntmps40
  go_wp2
  refine wp_loop_rounds 1 ?_
  rw [rounds_succ]
  go_wp2
  go_ret
  exact ⟨rfl, rfl⟩

end Go.Proofs.YtflfaiakenahlaaGreatDoor
end

section
/-
  The statement's 'num': an error's number; and what errors.As leaves in memory.
-/
namespace Go.Proofs.YtflfaiakenahlaaGreatDoor.V

theorem SL.allocW [Strm] {w : World} {L : List (Nat × Obj)} (h : SL w L) (o : Obj) : SL (w.alloc o) ((w.heap.size, o) :: L) := h.alloc o

theorem SL.set1 [Strm] {w : World} {L L' : List (Nat × Obj)} {b off : Nat} {cs : Array Value} {T : TypeId} {fr : Nat × Nat} {v : Value} (h : SL w L) (hu : Upd b (.cells cs T fr) (.cells (cs.setIfInBounds off v) T fr) L L') :
    SL (w.setCell ⟨b, off, none⟩ v) L' := by
  have hb := h.1 _ hu.mem
  simp only at hb
  refine h.upd hu ?_ (fun c hc => ?_) ⟨rfl, rfl, rfl⟩
  · obtain ⟨lo, hi⟩ := fr
    simp [World.setCell, Array.getElem?_modify, hb]
  · simp [World.setCell, Array.getElem?_modify, Ne.symm hc]

end Go.Proofs.YtflfaiakenahlaaGreatDoor.V
namespace Go.Proofs.YtflfaiakenahlaaGreatDoor
open Go.Proofs.YtflfaiakenahlaaGreatDoor.V

theorem frozen_zero {w : World} {b off : Nat} {cs : Array Value} {T : TypeId} (h : w.heap[b]? = some (.cells cs T (0, 0))) : w.frozen? ⟨b, off, none⟩ = false := by
  simp [World.frozen?, h]

/-- What the variable errors.errorType holds. -/
def ErrIn (F : List (Nat × Obj)) : Prop := Rd F ⟨0, 0, none⟩ (.iface 167 (.agg #[.pointer (some ⟨1, 26, none⟩)]))

theorem as_spec [Strm] (n : Int) (t : Nat) (old : Value) (w : World) (F : List (Nat × Obj)) (hg : ErrIn F) (H : SL w ((t, .cells #[old] 72 (0, 0)) :: F)) :
    Does Tryz.prog 40 #[.iface 72 (.int .i64 n), .iface 92 (.pointer (some ⟨t, 0, none⟩))] w
      fun r w' => r = .bool true ∧ SL w' ((t, .cells #[.int .i64 n] 72 (0, 0)) :: F) := by
  have hm := H.1 _ (.head _)
  have h := as_hit n ⟨t, 0, none⟩ old w (Rd.cell H hg.tail) (by simp [World.cell?, hm]) (frozen_zero hm)
  refine .of (h.mono fun ev w' ⟨he, hw⟩ => ⟨_, he, rfl, ?_⟩)
  subst hw
  have H4 := (((H.allocW (.cells #[.pointer (some ⟨t, 0, none⟩)] 92 (0, 0))).allocW (.cells #[.pointer (some ⟨1, 92, none⟩), .pointer (some ⟨w.heap.size, 0, none⟩), .int .u64 150] 140 (0, 0))).allocW (.cells #[.pointer (some ⟨1, 92, none⟩), .pointer (some ⟨w.heap.size, 0, none⟩), .int .u64 150] 140 (0, 0))).allocW (.cells #[.int .i64 n] 72 (0, 0))
  exact (H4.set1 (off := 0) (v := .int .i64 n) u4).drop.drop.drop.drop

theorem num_nil [Strm] (w : World) (F : List (Nat × Obj)) (H : SL w F) : Does Tryz.prog 12 #[.nilIface] w fun r w' => r = .int .i64 0 ∧ SL w' F := by
  refine Does.intro (args := [_]) (e := [(0, _)]) Tryz.func12 rfl Tryz.ntmps12 rfl rfl ?_
  repeat (first | refine .seq ?_ | refine .skip ?_ | refine .block ?_ | refine .inBlock ?_ | refine .yes rfl ?_ | refine .no rfl ?_ | refine .exit rfl ?_)
  repeat (first | refine .seq ?_ | refine .skip ?_ | refine .block ?_ | refine .inBlock ?_ | refine .yes rfl ?_ | refine .no rfl ?_ | refine .exit rfl ?_)
  refine RunsE.region ?_
  refine OpsE.ev (Ev.assign rfl) rfl ?_
  refine OpsE.nil ?_
  repeat (first | refine .seq ?_ | refine .skip ?_ | refine .block ?_ | refine .inBlock ?_ | refine .yes rfl ?_ | refine .no rfl ?_ | refine .exit rfl ?_)
  refine RunsE.region ?_
  refine OpsE.ex (Ex.alloc (zv := .int .i64 0) H (by kernel_rfl)) rfl ?_; (try clear H); rintro _ w ⟨b3, rfl, H⟩; simp only [Value.cells] at H
  refine OpsE.nil ?_
  repeat (first | refine .seq ?_ | refine .skip ?_ | refine .block ?_ | refine .inBlock ?_ | refine .yes rfl ?_ | refine .no rfl ?_ | refine .exit rfl ?_)
  refine RunsE.region ?_
  refine OpsE.ev (Ev.move rfl) rfl ?_
  refine OpsE.ev (Ev.ifNilEqT rfl (Tryz.underlying26)) rfl ?_
  refine OpsE.nil ?_
  repeat (first | refine .seq ?_ | refine .skip ?_ | refine .block ?_ | refine .inBlock ?_ | refine .yes rfl ?_ | refine .no rfl ?_ | refine .exit rfl ?_)
  refine RunsE.region ?_
  refine OpsE.ev (Ev.assign rfl) rfl ?_
  refine OpsE.nil ?_
  repeat (first | refine .seq ?_ | refine .skip ?_ | refine .block ?_ | refine .inBlock ?_ | refine .yes rfl ?_ | refine .no rfl ?_ | refine .exit rfl ?_)
  exact RunsE.ret1 Tryz.func12 rfl rfl ⟨rfl, H.drop⟩

theorem num_spec [Strm] (n : Int) (w : World) (F : List (Nat × Obj)) (hg : ErrIn F) (H : SL w F) : Does Tryz.prog 12 #[.iface 72 (.int .i64 n)] w fun r w' => r = .int .i64 n ∧ SL w' F := by
  refine Does.intro (args := [_]) (e := [(0, _)]) Tryz.func12 rfl Tryz.ntmps12 rfl rfl ?_
  repeat (first | refine .seq ?_ | refine .skip ?_ | refine .block ?_ | refine .inBlock ?_ | refine .yes rfl ?_ | refine .no rfl ?_ | refine .exit rfl ?_)
  repeat (first | refine .seq ?_ | refine .skip ?_ | refine .block ?_ | refine .inBlock ?_ | refine .yes rfl ?_ | refine .no rfl ?_ | refine .exit rfl ?_)
  refine RunsE.region ?_
  refine OpsE.ev (Ev.assign rfl) rfl ?_
  refine OpsE.nil ?_
  repeat (first | refine .seq ?_ | refine .skip ?_ | refine .block ?_ | refine .inBlock ?_ | refine .yes rfl ?_ | refine .no rfl ?_ | refine .exit rfl ?_)
  refine RunsE.region ?_
  refine OpsE.ex (Ex.alloc (zv := .int .i64 0) H (by kernel_rfl)) rfl ?_; (try clear H); rintro _ w ⟨b3, rfl, H⟩; simp only [Value.cells] at H
  refine OpsE.nil ?_
  repeat (first | refine .seq ?_ | refine .skip ?_ | refine .block ?_ | refine .inBlock ?_ | refine .yes rfl ?_ | refine .no rfl ?_ | refine .exit rfl ?_)
  refine RunsE.region ?_
  refine OpsE.ev (Ev.move rfl) rfl ?_
  refine OpsE.ev (Ev.ifNilEq rfl (Tryz.underlying26)) rfl ?_
  refine OpsE.nil ?_
  repeat (first | refine .seq ?_ | refine .skip ?_ | refine .block ?_ | refine .inBlock ?_ | refine .yes rfl ?_ | refine .no rfl ?_ | refine .exit rfl ?_)
  refine RunsE.region ?_
  refine OpsE.ev (Ev.move rfl) rfl ?_
  refine OpsE.ev (Ev.makeInterface (d := .pointer 72) rfl (by kernel_rfl) rfl) rfl ?_
  refine OpsE.ex (Ex.call rfl Tryz.call40 (as_spec n b3 (.int .i64 0) w _ hg H)) rfl ?_; (try clear H); rintro _ w ⟨rfl, H⟩
  refine OpsE.nil ?_
  repeat (first | refine .seq ?_ | refine .skip ?_ | refine .block ?_ | refine .inBlock ?_ | refine .yes rfl ?_ | refine .no rfl ?_ | refine .exit rfl ?_)
  refine RunsE.region ?_
  refine OpsE.ev (Ev.load H rfl (by kernel_rfl) (by first | exact Rd.mk m0 rfl | exact Rd.mk m1 rfl | exact Rd.mk m2 rfl | exact Rd.mk m3 rfl | assumption)) rfl ?_
  refine OpsE.ev (Ev.assign rfl) rfl ?_
  refine OpsE.nil ?_
  repeat (first | refine .seq ?_ | refine .skip ?_ | refine .block ?_ | refine .inBlock ?_ | refine .yes rfl ?_ | refine .no rfl ?_ | refine .exit rfl ?_)
  exact RunsE.ret1 Tryz.func12 rfl rfl ⟨rfl, H.drop⟩

end Go.Proofs.YtflfaiakenahlaaGreatDoor
end

section
/-
  What Set comes to; the laws' own: same, own.
-/
namespace Go.Proofs.YtflfaiakenahlaaGreatDoor.V

theorem page_noQ {st : St} (h : st.Q = []) (p : Nat) : st.page p = st.P.getD p [] := by
  unfold St.page
  rw [h]
  rfl

theorem opened {st : St} {fr count : Nat} {l : List Lf} (hQ : st.Q = []) (hL : LaidS st.P fr count l) (hok : OkL l count) (hc : count ≤ 256) : openM count (fun i => st.page (fr + i)) = some l := by
  refine open_laid hok hc ?_ ?_
  · show st.page (fr + 0) = _ ∨ _ ∧ st.page (fr + 0) = _
    rw [page_noQ hQ, Nat.add_zero]
    exact hL.root
  · intro y hy
    rw [page_noQ hQ]
    exact hL.leaf y hy

/-- What Set does where the store is up, and nothing loose. -/
theorem set_effect {st : St} {fr count : Nat} {l : List Lf} (cs : List Ch) (hd : st.down = false) (hQ : st.Q = []) (hL : LaidS st.P fr count l) (hok : OkL l count) (hc : count ≤ 256) (hc1 : 1 ≤ count) :
    ((setP st fr count l 0 cs).2.2.2 = (setM l count cs).2.2.2 ∧ (setP st fr count l 0 cs).2.1 = (setM l count cs).1 ∧ (setP st fr count l 0 cs).2.2.1 = 0 ∧ (setP st fr count l 0 cs).1.down = false ∧ (setP st fr count l 0 cs).1.Q = [] ∧
      (setP st fr count l 0 cs).1.P.length = st.P.length ∧ LaidS (setP st fr count l 0 cs).1.P fr count (setM l count cs).1 ∧ (st.armed = false → (setP st fr count l 0 cs).1.armed = false) ∧
      ((setM l count cs).2.2.1 = true → (setP st fr count l 0 cs).1.P.getD fr [] = rootM (setM l count cs).1 count) ∧ (∀ p, p < fr ∨ fr + count ≤ p → (setP st fr count l 0 cs).1.P.getD p [] = st.P.getD p [])) ∨
    ((setP st fr count l 0 cs).2.2.2 = 13 ∧ (setP st fr count l 0 cs).2.1 = l ∧ (setP st fr count l 0 cs).2.2.1 = 13 ∧ (setP st fr count l 0 cs).1.down = true ∧ st.armed = true ∧
      ∀ kept, LaidS ((setP st fr count l 0 cs).1.start kept).P fr count l ∨ LaidS ((setP st fr count l 0 cs).1.start kept).P fr count (setM l count cs).1) := by
  have hfl := free_len hok
  have hP : setP st fr count l 0 cs = setP st fr count l 0 cs := rfl
  conv at hP => rhs; unfold setP
  rw [if_neg (by simp)] at hP
  have hset : setM l count cs = setM l count cs := rfl
  conv at hset => rhs; unfold setM
  generalize setP st fr count l 0 cs = R at *
  by_cases h1 : ((changesM l cs).filter fun x => !x.gone).any (fun x => decide (4096 < (pageM x.key x.val).length)) = true
  · rw [if_pos h1] at hset
    rw [hset] at hP ⊢
    rw [if_pos (by simp)] at hP
    subst hP
    exact .inl ⟨rfl, rfl, rfl, hd, hQ, rfl, hL, fun h => h, fun h => (by cases h), fun _ _ => rfl⟩
  rw [if_neg h1] at hset
  by_cases h2 : count - 1 - l.length < ((changesM l cs).filter fun x => !x.gone).length
  · rw [if_pos h2] at hset
    rw [hset] at hP ⊢
    rw [if_pos (by simp)] at hP
    subst hP
    exact .inl ⟨rfl, rfl, rfl, hd, hQ, rfl, hL, fun h => h, fun h => (by cases h), fun _ _ => rfl⟩
  rw [if_neg h2] at hset
  rw [hset] at hP ⊢
  rw [if_neg (by simp)] at hP
  by_cases h3 : changesM l cs = []
  · rw [if_pos h3] at hP
    subst hP
    have e1 : applyM l (changesM l cs) (freeM l count) = l := by rw [h3]; unfold applyM; rfl
    rw [e1]
    exact .inl ⟨rfl, rfl, rfl, hd, hQ, rfl, hL, fun h => h, fun h => (by rw [h3] at h; simp at h), fun _ _ => rfl⟩
  rw [if_neg h3] at hP
  have hn := SrtC.nodup (changes_sorted l cs)
  have hfit : ∀ x ∈ changesM l cs, x.gone = false → (pageM x.key x.val).length ≤ 4096 := by
    intro x hx hg
    rw [Bool.not_eq_true, List.any_eq_false] at h1
    have := h1 x (List.mem_filter.2 ⟨hx, by rw [hg]; rfl⟩)
    simp at this
    exact this
  rcases lay_effect (ch := changesM l cs) hd hQ hL hok hn (by omega) hfit hc hc1 with ⟨a1, a2, a3, a4, a5, a6, a7, a8⟩ | ⟨a1, a2, a3, a4⟩
  · rw [if_pos a1, a1] at hP
    subst hP
    refine .inl ⟨rfl, rfl, rfl, a2, a3, a4, a6, a5, fun _ => a7, a8⟩
  · rw [if_neg (by rw [a1]; decide), a1] at hP
    subst hP
    exact .inr ⟨rfl, rfl, rfl, a2, a3, a4⟩

theorem Slc.chAt {L B : List (Nat × Obj)} {T : TypeId} {v : Value} {cs : List Ch} (h : Slc gC 3 T v cs B) : ElsA 3 (ChAt (B ++ L)) v cs := by
  cases h with
  | nil => exact .nil
  | blk b xs cap sp fr h1 h2 h3 =>
    refine .blk b 0 cap cs h2 fun i x hi j u hj => ?_
    have := (Slc.blk b cs cap sp fr h1 h2 h3 : Slc gC 3 T _ cs _).rdEl (L := L) (fun _ => rfl) hi j u hj
    rw [Nat.zero_add]
    exact this

theorem find_mem {l : List Lf} (h : SrtL l) {y : Lf} (hy : y ∈ l) : findL l y.key = some y := by
  have h2 := atK_kvL l y.key
  have h3 : atK (kvL l) y.key = some (leafV y) := (atK_mem (by rw [kvL_keys]; exact h.nodup)).2 (List.mem_map_of_mem (f := fun y : Lf => (y.key, leafV y)) hy)
  rw [h3] at h2
  cases hf : findL l y.key with
  | none => rw [hf] at h2; cases h2
  | some z =>
    have hz := List.find?_some hf
    simp only [decide_eq_true_eq] at hz
    rw [hf] at h2
    simp only [Option.map_some, Option.some.injEq] at h2
    rw [kv_inj (y := y) (z := z) (by rw [hz, h2])]

/-- A leaf's key and value. -/
abbrev kvp (y : Lf) : List UInt8 × List UInt8 := (y.key, y.val)

end Go.Proofs.YtflfaiakenahlaaGreatDoor.V
namespace Go.Proofs.YtflfaiakenahlaaGreatDoor
open Go.Proofs.YtflfaiakenahlaaGreatDoor.V

theorem num_EV [Strm] (n : Nat) (w : World) (F : List (Nat × Obj)) (hg : ErrIn F) (H : SL w F) : Does Tryz.prog 12 #[EV n] w fun r w' => r = .int .i64 (n : Int) ∧ SL w' F := by
  cases n with
  | zero => exact num_nil w F H
  | succ n => exact num_spec _ w F hg H

theorem shown_spec [Strm] (zs : List Int) (v : Value) (hl : zs.length ≤ 1000000000) (w : World) (F : List (Nat × Obj)) (hv : IntsIn .i64 F v zs) (H : SL w F) :
    Does Tryz.prog 29 #[v] w fun r w' => ∃ B, Slc gI 1 3 r zs B ∧ SL w' (B ++ F) := by
  obtain ⟨a, c, rfl, hc⟩ := hv.len
  refine Does.intro (args := [_]) (e := [(0, _)]) Tryz.func29 rfl Tryz.ntmps29 rfl rfl ?_
  repeat (first | refine .seq ?_ | refine .skip ?_ | refine .block ?_ | refine .inBlock ?_ | refine .yes rfl ?_ | refine .no rfl ?_ | refine .exit rfl ?_)
  repeat (first | refine .seq ?_ | refine .skip ?_ | refine .block ?_ | refine .inBlock ?_ | refine .yes rfl ?_ | refine .no rfl ?_ | refine .exit rfl ?_)
  refine RunsE.region ?_
  refine OpsE.ev (Ev.assign rfl) rfl ?_
  refine OpsE.nil ?_
  repeat (first | refine .seq ?_ | refine .skip ?_ | refine .block ?_ | refine .inBlock ?_ | refine .yes rfl ?_ | refine .no rfl ?_ | refine .exit rfl ?_)
  refine RunsE.region ?_
  refine OpsE.ev (Ev.assign rfl) rfl ?_
  refine OpsE.nil ?_
  repeat (first | refine .seq ?_ | refine .skip ?_ | refine .block ?_ | refine .inBlock ?_ | refine .yes rfl ?_ | refine .no rfl ?_ | refine .exit rfl ?_)
  refine RunsE.region ?_
  refine OpsE.ev (Ev.move rfl) rfl ?_
  refine OpsE.ev (Ev.move rfl) rfl ?_
  refine OpsE.ex (Ex.append (T := 3) (g := gI) (by_ := 8) (zv := .int .i64 0) (xs := []) (ys := zs) (B := []) H rfl rfl .nil (Els.src H hv fun _ _ h => h.1) (fun _ => rfl) (by simp [Value.oneCell']) (by kernel_rfl) (by kernel_rfl) (by kernel_rfl) (by kernel_rfl) rfl (by simp only [List.length_nil]; omega) (by simp only [List.length_nil]; omega)) rfl ?_; (try clear H); rintro v' w ⟨B, hs, H⟩
  refine OpsE.ev (Ev.assign rfl) rfl ?_
  refine OpsE.nil ?_
  repeat (first | refine .seq ?_ | refine .skip ?_ | refine .block ?_ | refine .inBlock ?_ | refine .yes rfl ?_ | refine .no rfl ?_ | refine .exit rfl ?_)
  exact RunsE.ret1 Tryz.func29 rfl rfl ⟨B, hs, H⟩

set_option maxHeartbeats 2000000 in
theorem same_spec [Strm] (s p fr count m dead : Nat) (o : Obj) (l dl : List Lf) (vd : Value) (hsr : SrtL l) (hll : l.length ≤ count - 1) (hc : count ≤ 256) (hdl : dl.length ≤ 1000000) (w : World) (X : List (Nat × Obj)) (hs : (s, shO p fr count m dead) ∈ X) (hm : (m, o) ∈ X) (ho : Mp o (kvL l)) (hvd : LsAt X vd dl) (H : SL w X) :
    Does Tryz.prog 14 #[.pointer (some ⟨s, 0, none⟩), vd, .int .i64 (count : Int)] w fun r w' => r = .bool (decide (l.map kvp = dl.map kvp)) ∧ SL w' X := by
  obtain ⟨ad, cd, rfl, hcd⟩ := hvd.len
  have hfl := hll
  refine Does.intro (args := [_, _, _]) (e := [(0, _), (1, _), (2, _)]) Tryz.func14 rfl Tryz.ntmps14 rfl rfl ?_
  repeat (first | refine .seq ?_ | refine .skip ?_ | refine .block ?_ | refine .inBlock ?_ | refine .yes rfl ?_ | refine .no rfl ?_ | refine .exit rfl ?_)
  repeat (first | refine .seq ?_ | refine .skip ?_ | refine .block ?_ | refine .inBlock ?_ | refine .yes rfl ?_ | refine .no rfl ?_ | refine .exit rfl ?_)
  refine RunsE.region ?_
  refine OpsE.ev (Ev.assign rfl) rfl ?_
  refine OpsE.nil ?_
  repeat (first | refine .seq ?_ | refine .skip ?_ | refine .block ?_ | refine .inBlock ?_ | refine .yes rfl ?_ | refine .no rfl ?_ | refine .exit rfl ?_)
  refine RunsE.region ?_
  refine OpsE.ev (Ev.move rfl) rfl ?_
  refine OpsE.ex (Ex.call rfl Tryz.call21 (keys_spec s p fr count m dead o l (by omega) hsr w X hs hm ho H)) rfl ?_; (try clear H); rintro vk w ⟨Bk, hk, H⟩
  refine OpsE.ev (Ev.assign rfl) rfl ?_
  refine OpsE.nil ?_
  obtain ⟨ak, ck, rfl, hck⟩ := hk.leCap
  rw [List.length_map] at hk hck ⊢
  have hs' : (s, shO p fr count m dead) ∈ Bk ++ X := List.mem_append_right _ hs
  have hm' : (m, o) ∈ Bk ++ X := List.mem_append_right _ hm
  by_cases hlen : l.length = dl.length
  case neg =>
    repeat (first | refine .seq ?_ | refine .skip ?_ | refine .block ?_ | refine .inBlock ?_ | refine .yes rfl ?_ | refine .no rfl ?_ | refine .exit rfl ?_)
    refine RunsE.region ?_
    refine OpsE.ev (Ev.move rfl) rfl ?_
    refine OpsE.ev (Ev.lenSl (d := 9) rfl rfl (by kernel_rfl)) rfl ?_
    refine OpsE.ev (Ev.move rfl) rfl ?_
    refine OpsE.ev (Ev.lenSl (d := 64) rfl rfl (by kernel_rfl)) rfl ?_
    refine OpsE.ev (Ev.neq (r := true) rfl rfl (bne_iff_ne.2 (by omega))) rfl ?_
    refine OpsE.ev (Ev.move rfl) rfl ?_
    first | (refine OpsE.yes rfl rfl ?_; refine OpsE.ev (Ev.move rfl) rfl ?_) | refine OpsE.no rfl rfl rfl ?_ | refine OpsE.off rfl rfl rfl ?_
    first | (refine OpsE.yes rfl rfl ?_; refine OpsE.ex (Ex.call rfl Tryz.call20 (?spec)) rfl ?_; (try clear H); rintro _ w ⟨rfl, H⟩) | refine OpsE.no rfl rfl rfl ?_ | refine OpsE.off rfl rfl rfl ?_
    first | (refine OpsE.yes rfl rfl ?_; refine OpsE.ev (Ev.move rfl) rfl ?_) | refine OpsE.no rfl rfl rfl ?_ | refine OpsE.off rfl rfl rfl ?_
    first | (refine OpsE.yes rfl rfl ?_; refine OpsE.ev (Ev.sub rfl rfl) rfl ?_) | refine OpsE.no rfl rfl rfl ?_ | refine OpsE.off rfl rfl rfl ?_
    first | (refine OpsE.yes rfl rfl ?_; refine OpsE.ev (Ev.move rfl) rfl ?_) | refine OpsE.no rfl rfl rfl ?_ | refine OpsE.off rfl rfl rfl ?_
    first | (refine OpsE.yes rfl rfl ?_; refine OpsE.ev (Ev.lenSl (d := 64) rfl rfl (by kernel_rfl)) rfl ?_) | refine OpsE.no rfl rfl rfl ?_ | refine OpsE.off rfl rfl rfl ?_
    first | (refine OpsE.yes rfl rfl ?_; refine OpsE.ev (Ev.sub rfl rfl) rfl ?_) | refine OpsE.no rfl rfl rfl ?_ | refine OpsE.off rfl rfl rfl ?_
    first | (refine OpsE.yes rfl rfl ?_; refine OpsE.ev (Ev.neq rfl rfl) rfl ?_) | refine OpsE.no rfl rfl rfl ?_ | refine OpsE.off rfl rfl rfl ?_
    refine OpsE.ev ((by first | exact Ev.pickT rfl rfl | exact Ev.pickF rfl rfl)) rfl ?_
    refine OpsE.nil ?_
    repeat refine RunsE.seq ?_
    refine RunsE.yes rfl ?_
    repeat (first | refine .seq ?_ | refine .skip ?_ | refine .block ?_ | refine .inBlock ?_ | refine .yes rfl ?_ | refine .no rfl ?_ | refine .exit rfl ?_)
    refine RunsE.region ?_
    refine OpsE.ev (Ev.assign rfl) rfl ?_
    refine OpsE.nil ?_
    repeat (first | refine .seq ?_ | refine .skip ?_ | refine .block ?_ | refine .inBlock ?_ | refine .yes rfl ?_ | refine .no rfl ?_ | refine .exit rfl ?_)
    exact RunsE.ret1 Tryz.func14 rfl rfl ⟨by rw [decide_eq_false fun h => hlen (by simpa using congrArg List.length h)], H.dropL⟩
  repeat (first | refine .seq ?_ | refine .skip ?_ | refine .block ?_ | refine .inBlock ?_ | refine .yes rfl ?_ | refine .no rfl ?_ | refine .exit rfl ?_)
  refine RunsE.region ?_
  refine OpsE.ev (Ev.move rfl) rfl ?_
  refine OpsE.ev (Ev.lenSl (d := 9) rfl rfl (by kernel_rfl)) rfl ?_
  refine OpsE.ev (Ev.move rfl) rfl ?_
  refine OpsE.ev (Ev.lenSl (d := 64) rfl rfl (by kernel_rfl)) rfl ?_
  refine OpsE.ev (Ev.neq (r := false) rfl rfl (bne_eq_false_iff_eq.2 (by omega))) rfl ?_
  refine OpsE.ev (Ev.move rfl) rfl ?_
  first | (refine OpsE.yes rfl rfl ?_; refine OpsE.ev (Ev.move rfl) rfl ?_) | refine OpsE.no rfl rfl rfl ?_ | refine OpsE.off rfl rfl rfl ?_
  first | (refine OpsE.yes rfl rfl ?_; refine OpsE.ex (Ex.call rfl Tryz.call20 (freen_spec s p fr count m dead o l (by omega) (by omega) w _ hs' hm' ho H)) rfl ?_; (try clear H); rintro _ w ⟨rfl, H⟩) | refine OpsE.no rfl rfl rfl ?_ | refine OpsE.off rfl rfl rfl ?_
  first | (refine OpsE.yes rfl rfl ?_; refine OpsE.ev (Ev.move rfl) rfl ?_) | refine OpsE.no rfl rfl rfl ?_ | refine OpsE.off rfl rfl rfl ?_
  first | (refine OpsE.yes rfl rfl ?_; refine OpsE.ev (Ev.sub (c := (count : Int) - 1) rfl rfl (qi64 (by omega) (by omega))) rfl ?_) | refine OpsE.no rfl rfl rfl ?_ | refine OpsE.off rfl rfl rfl ?_
  first | (refine OpsE.yes rfl rfl ?_; refine OpsE.ev (Ev.move rfl) rfl ?_) | refine OpsE.no rfl rfl rfl ?_ | refine OpsE.off rfl rfl rfl ?_
  first | (refine OpsE.yes rfl rfl ?_; refine OpsE.ev (Ev.lenSl (d := 64) rfl rfl (by kernel_rfl)) rfl ?_) | refine OpsE.no rfl rfl rfl ?_ | refine OpsE.off rfl rfl rfl ?_
  first | (refine OpsE.yes rfl rfl ?_; refine OpsE.ev (Ev.sub (c := (count : Int) - 1 - dl.length) rfl rfl (qi64 (by omega) (by omega))) rfl ?_) | refine OpsE.no rfl rfl rfl ?_ | refine OpsE.off rfl rfl rfl ?_
  first | (refine OpsE.yes rfl rfl ?_; refine OpsE.ev (Ev.neq (r := false) rfl rfl (bne_eq_false_iff_eq.2 (by omega))) rfl ?_) | refine OpsE.no rfl rfl rfl ?_ | refine OpsE.off rfl rfl rfl ?_
  refine OpsE.ev ((by first | exact Ev.pickT rfl rfl | exact Ev.pickF rfl rfl)) rfl ?_
  refine OpsE.nil ?_
  repeat refine RunsE.seq ?_
  refine RunsE.no rfl ?_
  repeat (first | refine .seq ?_ | refine .skip ?_ | refine .block ?_ | refine .inBlock ?_ | refine .yes rfl ?_ | refine .no rfl ?_ | refine .exit rfl ?_)
  refine RunsE.region ?_
  refine OpsE.ev (Ev.assign rfl) rfl ?_
  refine OpsE.nil ?_
  repeat refine RunsE.seq ?_
  refine RunsE.join (fun _ : Unit => [])
    (fun _ w => l.map kvp = dl.map kvp ∧ SL w X) (fun next => ?_) ?_
  · refine RunsE.block ?_
    refine RunsE.loop (fun i : Nat => [(0, .pointer (some ⟨s, 0, none⟩)), (1, .slice ad dl.length cd), (7, .slice ak l.length ck), (8, .int .i64 (i : Int))])
      (fun i w => i ≤ dl.length ∧ (l.take i).map kvp = (dl.take i).map kvp ∧ SL w (Bk ++ X)) (fun i => dl.length - i) 0 ⟨rfl, rfl, rfl, rfl, trivial⟩ ⟨by omega, rfl, H⟩ ?_
    clear H
    rintro i w ⟨hi, hlk, H⟩ nextL
    by_cases h1 : i = dl.length
    ·
      repeat (first | refine .seq ?_ | refine .skip ?_ | refine .block ?_ | refine .inBlock ?_ | refine .yes rfl ?_ | refine .no rfl ?_ | refine .exit rfl ?_)
      refine RunsE.region ?_
      refine OpsE.ev (Ev.move rfl) rfl ?_
      refine OpsE.ev (Ev.move rfl) rfl ?_
      refine OpsE.ev (Ev.lenSl (d := 64) rfl rfl (by kernel_rfl)) rfl ?_
      refine OpsE.ev (Ev.lss (r := false) rfl rfl (decide_eq_false (by omega))) rfl ?_
      refine OpsE.nil ?_
      repeat refine RunsE.seq ?_
      refine RunsE.no rfl ?_
      refine RunsE.exit rfl ?_
      rw [List.take_of_length_le (by omega), List.take_of_length_le (by omega)] at hlk
      exact next () _ _ ⟨hlk, H.dropL⟩ trivial
    clear next
    have hil : i < dl.length := by omega
    have hil2 : i < l.length := by omega
    obtain ⟨z, hz⟩ : ∃ z, dl[i]? = some z := ⟨dl[i], List.getElem?_eq_getElem hil⟩
    obtain ⟨y, hy⟩ : ∃ y, l[i]? = some y := ⟨l[i], List.getElem?_eq_getElem hil2⟩
    have hym := List.mem_of_getElem? hy
    obtain ⟨bl, ol, rfl, hat⟩ := hvd.elS gL_len hz
    have ht : dl.take (i + 1) = dl.take i ++ [z] := by rw [List.take_add_one, hz]; rfl
    have ht2 : l.take (i + 1) = l.take i ++ [y] := by rw [List.take_add_one, hy]; rfl
    obtain ⟨bk, rfl, hrk⟩ := hk.strAt (L := X) (i := i) (by rw [List.length_map]; exact hil2)
    have hkeq : (l.map Lf.key).getD i [] = y.key := by simp [List.getD_eq_getElem?_getD, hy]
    rw [hkeq] at hrk
    have hfy : findL l y.key = some y := find_mem hsr hym
    repeat (first | refine .seq ?_ | refine .skip ?_ | refine .block ?_ | refine .inBlock ?_ | refine .yes rfl ?_ | refine .no rfl ?_ | refine .exit rfl ?_)
    refine RunsE.region ?_
    refine OpsE.ev (Ev.move rfl) rfl ?_
    refine OpsE.ev (Ev.move rfl) rfl ?_
    refine OpsE.ev (Ev.lenSl (d := 64) rfl rfl (by kernel_rfl)) rfl ?_
    refine OpsE.ev (Ev.lss (r := true) rfl rfl (decide_eq_true (by omega))) rfl ?_
    refine OpsE.nil ?_
    repeat (first | refine .seq ?_ | refine .skip ?_ | refine .block ?_ | refine .inBlock ?_ | refine .yes rfl ?_ | refine .no rfl ?_ | refine .exit rfl ?_)
    repeat (first | refine .seq ?_ | refine .skip ?_ | refine .block ?_ | refine .inBlock ?_ | refine .yes rfl ?_ | refine .no rfl ?_ | refine .exit rfl ?_)
    refine RunsE.region ?_
    refine OpsE.ev (Ev.move rfl) rfl ?_
    refine OpsE.ev (Ev.move rfl) rfl ?_
    refine OpsE.ev (Ev.move rfl) rfl ?_
    refine OpsE.ev (Ev.iaSl (n := 64) (sz := 3) (m := i) (o := ol + i * 3) rfl rfl rfl (by kernel_rfl) hil) rfl ?_
    refine OpsE.ev (Ev.fieldAddr (o := 0) (o' := ol + i * 3 + 0) rfl (by kernel_rfl) (by omega)) rfl ?_
    refine OpsE.ev (Ev.load (v := sV z.key) H rfl (by kernel_rfl) (hat 0 _ rfl).right) rfl ?_
    refine OpsE.ex (Ex.call rfl Tryz.call19 (get_spec s p fr count m dead o l z.key w _ hs' hm' ho H)) rfl ?_; (try clear H); rintro _ w ⟨rfl, H⟩
    refine OpsE.ev (Ev.move rfl) rfl ?_
    refine OpsE.ev (Ev.extract rfl rfl) rfl ?_
    refine OpsE.ev (Ev.extract rfl rfl) rfl ?_
    refine OpsE.ev (Ev.assign rfl) rfl ?_
    refine OpsE.ev (Ev.assign rfl) rfl ?_
    refine OpsE.nil ?_
    by_cases h2 : y.key = z.key
    case neg =>
      repeat (first | refine .seq ?_ | refine .skip ?_ | refine .block ?_ | refine .inBlock ?_ | refine .yes rfl ?_ | refine .no rfl ?_ | refine .exit rfl ?_)
      refine RunsE.drawS H [] (by kernel_rfl) ?_; (try clear H); intro w H
      refine OpsD.take 0 rfl (by kernel_rfl) H (fun w H => Ev.move rfl) rfl ?_
      refine OpsD.take 1 rfl (by kernel_rfl) H (fun w H => Ev.move rfl) rfl ?_
      refine OpsD.take 2 rfl (by kernel_rfl) H (fun w H => Ev.iaSl (n := 9) (sz := 1) (m := i) (o := 0 + i) rfl rfl rfl (by kernel_rfl) hil2 (by rw [Nat.mul_one])) rfl ?_
      refine OpsD.take 3 rfl (by kernel_rfl) H (fun w H => Ev.load (v := sV y.key) H rfl (by kernel_rfl) hrk) rfl ?_
      refine OpsD.take 4 rfl (by kernel_rfl) H (fun w H => Ev.move rfl) rfl ?_
      refine OpsD.take 5 rfl (by kernel_rfl) H (fun w H => Ev.move rfl) rfl ?_
      refine OpsD.take 6 rfl (by kernel_rfl) H (fun w H => Ev.iaSl (n := 64) (sz := 3) (m := i) (o := ol + i * 3) rfl rfl rfl (by kernel_rfl) hil) rfl ?_
      refine OpsD.take 7 rfl (by kernel_rfl) H (fun w H => Ev.fieldAddr (o := 0) (o' := ol + i * 3 + 0) rfl (by kernel_rfl) (by omega)) rfl ?_
      refine OpsD.take 8 rfl (by kernel_rfl) H (fun w H => Ev.load (v := sV z.key) H rfl (by kernel_rfl) (hat 0 _ rfl).right) rfl ?_
      refine OpsD.take 9 rfl (by kernel_rfl) H (fun w H => Ev.strNeR (cs := y.key) (bs := z.key) (r := true) rfl rfl (decide_eq_true h2)) rfl ?_
      refine OpsD.take 10 rfl (by kernel_rfl) H (fun w H => Ev.move rfl) rfl ?_
      first | refine OpsD.takeYes 11 rfl (by kernel_rfl) rfl rfl H (fun w H => Ev.move rfl) rfl ?_ | refine OpsD.takeNo 11 rfl (by kernel_rfl) rfl rfl H rfl ?_ | refine OpsD.takeOff 11 rfl (by kernel_rfl) rfl rfl H rfl ?_
      first | refine OpsD.takeYes 12 rfl (by kernel_rfl) rfl rfl H (fun w H => Ev.move rfl) rfl ?_ | refine OpsD.takeNo 12 rfl (by kernel_rfl) rfl rfl H rfl ?_ | refine OpsD.takeOff 12 rfl (by kernel_rfl) rfl rfl H rfl ?_
      first | refine OpsD.takeYes 13 rfl (by kernel_rfl) rfl rfl H (fun w H => Ev.move rfl) rfl ?_ | refine OpsD.takeNo 13 rfl (by kernel_rfl) rfl rfl H rfl ?_ | refine OpsD.takeOff 13 rfl (by kernel_rfl) rfl rfl H rfl ?_
      first | refine OpsD.takeYes 14 rfl (by kernel_rfl) rfl rfl H (fun w H => Ev.iaSl (n := 64) (sz := 3) rfl rfl rfl (by kernel_rfl) (by omega)) rfl ?_ | refine OpsD.takeNo 14 rfl (by kernel_rfl) rfl rfl H rfl ?_ | refine OpsD.takeOff 14 rfl (by kernel_rfl) rfl rfl H rfl ?_
      first | refine OpsD.takeYes 15 rfl (by kernel_rfl) rfl rfl H (fun w H => Ev.fieldAddr (o := 1) rfl (by kernel_rfl)) rfl ?_ | refine OpsD.takeNo 15 rfl (by kernel_rfl) rfl rfl H rfl ?_ | refine OpsD.takeOff 15 rfl (by kernel_rfl) rfl rfl H rfl ?_
      first | refine OpsD.takeYes 16 rfl (by kernel_rfl) rfl rfl H (fun w H => Ev.load H rfl (by kernel_rfl) (by first | exact Rd.mk m0 rfl | exact Rd.mk m1 rfl | exact Rd.mk m2 rfl | exact Rd.mk m3 rfl | assumption)) rfl ?_ | refine OpsD.takeNo 16 rfl (by kernel_rfl) rfl rfl H rfl ?_ | refine OpsD.takeOff 16 rfl (by kernel_rfl) rfl rfl H rfl ?_
      first | refine OpsD.takeYes 17 rfl (by kernel_rfl) rfl rfl H (fun w H => (?op_binOp)) rfl ?_ | refine OpsD.takeNo 17 rfl (by kernel_rfl) rfl rfl H rfl ?_ | refine OpsD.takeOff 17 rfl (by kernel_rfl) rfl rfl H rfl ?_
      refine OpsD.take 18 rfl (by kernel_rfl) H (fun w H => (by first | exact Ev.pickT rfl rfl | exact Ev.pickF rfl rfl)) rfl ?_
      refine OpsD.take 19 rfl (by kernel_rfl) H (fun w H => Ev.move rfl) rfl ?_
      first | refine OpsD.takeYes 20 rfl (by kernel_rfl) rfl rfl H (fun w H => Ev.move rfl) rfl ?_ | refine OpsD.takeNo 20 rfl (by kernel_rfl) rfl rfl H rfl ?_ | refine OpsD.takeOff 20 rfl (by kernel_rfl) rfl rfl H rfl ?_
      first | refine OpsD.takeYes 21 rfl (by kernel_rfl) rfl rfl H (fun w H => Ev.not rfl) rfl ?_ | refine OpsD.takeNo 21 rfl (by kernel_rfl) rfl rfl H rfl ?_ | refine OpsD.takeOff 21 rfl (by kernel_rfl) rfl rfl H rfl ?_
      refine OpsD.take 22 rfl (by kernel_rfl) H (fun w H => (by first | exact Ev.pickT rfl rfl | exact Ev.pickF rfl rfl)) rfl ?_
      refine OpsD.done (by kernel_rfl) ?_
      repeat refine RunsE.seq ?_
      refine RunsE.yes rfl ?_
      repeat (first | refine .seq ?_ | refine .skip ?_ | refine .block ?_ | refine .inBlock ?_ | refine .yes rfl ?_ | refine .no rfl ?_ | refine .exit rfl ?_)
      refine RunsE.region ?_
      refine OpsE.ev (Ev.assign rfl) rfl ?_
      refine OpsE.nil ?_
      repeat (first | refine .seq ?_ | refine .skip ?_ | refine .block ?_ | refine .inBlock ?_ | refine .yes rfl ?_ | refine .no rfl ?_ | refine .exit rfl ?_)
      refine RunsE.ret1 Tryz.func14 rfl rfl ⟨?_, H.dropL⟩
      rw [decide_eq_false]
      intro he
      have := congrArg (fun q => q[i]?) he
      simp only [List.getElem?_map, hy, hz, Option.map_some, Option.some.injEq, kvp, Prod.mk.injEq] at this
      exact h2 this.1
    rw [← h2, hfy]
    by_cases h3 : y.val = z.val
    case neg =>
      repeat (first | refine .seq ?_ | refine .skip ?_ | refine .block ?_ | refine .inBlock ?_ | refine .yes rfl ?_ | refine .no rfl ?_ | refine .exit rfl ?_)
      refine RunsE.drawS H [] (by kernel_rfl) ?_; (try clear H); intro w H
      refine OpsD.take 0 rfl (by kernel_rfl) H (fun w H => Ev.move rfl) rfl ?_
      refine OpsD.take 1 rfl (by kernel_rfl) H (fun w H => Ev.move rfl) rfl ?_
      refine OpsD.take 2 rfl (by kernel_rfl) H (fun w H => Ev.iaSl (n := 9) (sz := 1) (m := i) (o := 0 + i) rfl rfl rfl (by kernel_rfl) hil2 (by rw [Nat.mul_one])) rfl ?_
      refine OpsD.take 3 rfl (by kernel_rfl) H (fun w H => Ev.load (v := sV y.key) H rfl (by kernel_rfl) hrk) rfl ?_
      refine OpsD.take 4 rfl (by kernel_rfl) H (fun w H => Ev.move rfl) rfl ?_
      refine OpsD.take 5 rfl (by kernel_rfl) H (fun w H => Ev.move rfl) rfl ?_
      refine OpsD.take 6 rfl (by kernel_rfl) H (fun w H => Ev.iaSl (n := 64) (sz := 3) (m := i) (o := ol + i * 3) rfl rfl rfl (by kernel_rfl) hil) rfl ?_
      refine OpsD.take 7 rfl (by kernel_rfl) H (fun w H => Ev.fieldAddr (o := 0) (o' := ol + i * 3 + 0) rfl (by kernel_rfl) (by omega)) rfl ?_
      refine OpsD.take 8 rfl (by kernel_rfl) H (fun w H => Ev.load (v := sV z.key) H rfl (by kernel_rfl) (hat 0 _ rfl).right) rfl ?_
      refine OpsD.take 9 rfl (by kernel_rfl) H (fun w H => Ev.strNeR (cs := y.key) (bs := z.key) (r := false) rfl rfl (decide_eq_false (by simpa using h2))) rfl ?_
      refine OpsD.take 10 rfl (by kernel_rfl) H (fun w H => Ev.move rfl) rfl ?_
      first | refine OpsD.takeYes 11 rfl (by kernel_rfl) rfl rfl H (fun w H => Ev.move rfl) rfl ?_ | refine OpsD.takeNo 11 rfl (by kernel_rfl) rfl rfl H rfl ?_ | refine OpsD.takeOff 11 rfl (by kernel_rfl) rfl rfl H rfl ?_
      first | refine OpsD.takeYes 12 rfl (by kernel_rfl) rfl rfl H (fun w H => Ev.move rfl) rfl ?_ | refine OpsD.takeNo 12 rfl (by kernel_rfl) rfl rfl H rfl ?_ | refine OpsD.takeOff 12 rfl (by kernel_rfl) rfl rfl H rfl ?_
      first | refine OpsD.takeYes 13 rfl (by kernel_rfl) rfl rfl H (fun w H => Ev.move rfl) rfl ?_ | refine OpsD.takeNo 13 rfl (by kernel_rfl) rfl rfl H rfl ?_ | refine OpsD.takeOff 13 rfl (by kernel_rfl) rfl rfl H rfl ?_
      first | refine OpsD.takeYes 14 rfl (by kernel_rfl) rfl rfl H (fun w H => Ev.iaSl (n := 64) (sz := 3) (m := i) (o := ol + i * 3) rfl rfl rfl (by kernel_rfl) hil) rfl ?_ | refine OpsD.takeNo 14 rfl (by kernel_rfl) rfl rfl H rfl ?_ | refine OpsD.takeOff 14 rfl (by kernel_rfl) rfl rfl H rfl ?_
      first | refine OpsD.takeYes 15 rfl (by kernel_rfl) rfl rfl H (fun w H => Ev.fieldAddr (o := 1) (o' := ol + i * 3 + 1) rfl (by kernel_rfl) (by omega)) rfl ?_ | refine OpsD.takeNo 15 rfl (by kernel_rfl) rfl rfl H rfl ?_ | refine OpsD.takeOff 15 rfl (by kernel_rfl) rfl rfl H rfl ?_
      first | refine OpsD.takeYes 16 rfl (by kernel_rfl) rfl rfl H (fun w H => Ev.load (v := sV z.val) H rfl (by kernel_rfl) (hat 1 _ rfl).right) rfl ?_ | refine OpsD.takeNo 16 rfl (by kernel_rfl) rfl rfl H rfl ?_ | refine OpsD.takeOff 16 rfl (by kernel_rfl) rfl rfl H rfl ?_
      first | refine OpsD.takeYes 17 rfl (by kernel_rfl) rfl rfl H (fun w H => Ev.strNeR (cs := y.val) (bs := z.val) (r := true) rfl rfl (decide_eq_true h3)) rfl ?_ | refine OpsD.takeNo 17 rfl (by kernel_rfl) rfl rfl H rfl ?_ | refine OpsD.takeOff 17 rfl (by kernel_rfl) rfl rfl H rfl ?_
      refine OpsD.take 18 rfl (by kernel_rfl) H (fun w H => (by first | exact Ev.pickT rfl rfl | exact Ev.pickF rfl rfl)) rfl ?_
      refine OpsD.take 19 rfl (by kernel_rfl) H (fun w H => Ev.move rfl) rfl ?_
      first | refine OpsD.takeYes 20 rfl (by kernel_rfl) rfl rfl H (fun w H => Ev.move rfl) rfl ?_ | refine OpsD.takeNo 20 rfl (by kernel_rfl) rfl rfl H rfl ?_ | refine OpsD.takeOff 20 rfl (by kernel_rfl) rfl rfl H rfl ?_
      first | refine OpsD.takeYes 21 rfl (by kernel_rfl) rfl rfl H (fun w H => Ev.not rfl) rfl ?_ | refine OpsD.takeNo 21 rfl (by kernel_rfl) rfl rfl H rfl ?_ | refine OpsD.takeOff 21 rfl (by kernel_rfl) rfl rfl H rfl ?_
      refine OpsD.take 22 rfl (by kernel_rfl) H (fun w H => (by first | exact Ev.pickT rfl rfl | exact Ev.pickF rfl rfl)) rfl ?_
      refine OpsD.done (by kernel_rfl) ?_
      repeat refine RunsE.seq ?_
      refine RunsE.yes rfl ?_
      repeat (first | refine .seq ?_ | refine .skip ?_ | refine .block ?_ | refine .inBlock ?_ | refine .yes rfl ?_ | refine .no rfl ?_ | refine .exit rfl ?_)
      refine RunsE.region ?_
      refine OpsE.ev (Ev.assign rfl) rfl ?_
      refine OpsE.nil ?_
      repeat (first | refine .seq ?_ | refine .skip ?_ | refine .block ?_ | refine .inBlock ?_ | refine .yes rfl ?_ | refine .no rfl ?_ | refine .exit rfl ?_)
      refine RunsE.ret1 Tryz.func14 rfl rfl ⟨?_, H.dropL⟩
      rw [decide_eq_false]
      intro he
      have := congrArg (fun q => q[i]?) he
      simp only [List.getElem?_map, hy, hz, Option.map_some, Option.some.injEq, kvp, Prod.mk.injEq] at this
      exact h3 this.2
    repeat (first | refine .seq ?_ | refine .skip ?_ | refine .block ?_ | refine .inBlock ?_ | refine .yes rfl ?_ | refine .no rfl ?_ | refine .exit rfl ?_)
    refine RunsE.drawS H [] (by kernel_rfl) ?_; (try clear H); intro w H
    refine OpsD.take 0 rfl (by kernel_rfl) H (fun w H => Ev.move rfl) rfl ?_
    refine OpsD.take 1 rfl (by kernel_rfl) H (fun w H => Ev.move rfl) rfl ?_
    refine OpsD.take 2 rfl (by kernel_rfl) H (fun w H => Ev.iaSl (n := 9) (sz := 1) (m := i) (o := 0 + i) rfl rfl rfl (by kernel_rfl) hil2 (by rw [Nat.mul_one])) rfl ?_
    refine OpsD.take 3 rfl (by kernel_rfl) H (fun w H => Ev.load (v := sV y.key) H rfl (by kernel_rfl) hrk) rfl ?_
    refine OpsD.take 4 rfl (by kernel_rfl) H (fun w H => Ev.move rfl) rfl ?_
    refine OpsD.take 5 rfl (by kernel_rfl) H (fun w H => Ev.move rfl) rfl ?_
    refine OpsD.take 6 rfl (by kernel_rfl) H (fun w H => Ev.iaSl (n := 64) (sz := 3) (m := i) (o := ol + i * 3) rfl rfl rfl (by kernel_rfl) hil) rfl ?_
    refine OpsD.take 7 rfl (by kernel_rfl) H (fun w H => Ev.fieldAddr (o := 0) (o' := ol + i * 3 + 0) rfl (by kernel_rfl) (by omega)) rfl ?_
    refine OpsD.take 8 rfl (by kernel_rfl) H (fun w H => Ev.load (v := sV z.key) H rfl (by kernel_rfl) (hat 0 _ rfl).right) rfl ?_
    refine OpsD.take 9 rfl (by kernel_rfl) H (fun w H => Ev.strNeR (cs := y.key) (bs := z.key) (r := false) rfl rfl (decide_eq_false (by simpa using h2))) rfl ?_
    refine OpsD.take 10 rfl (by kernel_rfl) H (fun w H => Ev.move rfl) rfl ?_
    first | refine OpsD.takeYes 11 rfl (by kernel_rfl) rfl rfl H (fun w H => Ev.move rfl) rfl ?_ | refine OpsD.takeNo 11 rfl (by kernel_rfl) rfl rfl H rfl ?_ | refine OpsD.takeOff 11 rfl (by kernel_rfl) rfl rfl H rfl ?_
    first | refine OpsD.takeYes 12 rfl (by kernel_rfl) rfl rfl H (fun w H => Ev.move rfl) rfl ?_ | refine OpsD.takeNo 12 rfl (by kernel_rfl) rfl rfl H rfl ?_ | refine OpsD.takeOff 12 rfl (by kernel_rfl) rfl rfl H rfl ?_
    first | refine OpsD.takeYes 13 rfl (by kernel_rfl) rfl rfl H (fun w H => Ev.move rfl) rfl ?_ | refine OpsD.takeNo 13 rfl (by kernel_rfl) rfl rfl H rfl ?_ | refine OpsD.takeOff 13 rfl (by kernel_rfl) rfl rfl H rfl ?_
    first | refine OpsD.takeYes 14 rfl (by kernel_rfl) rfl rfl H (fun w H => Ev.iaSl (n := 64) (sz := 3) (m := i) (o := ol + i * 3) rfl rfl rfl (by kernel_rfl) hil) rfl ?_ | refine OpsD.takeNo 14 rfl (by kernel_rfl) rfl rfl H rfl ?_ | refine OpsD.takeOff 14 rfl (by kernel_rfl) rfl rfl H rfl ?_
    first | refine OpsD.takeYes 15 rfl (by kernel_rfl) rfl rfl H (fun w H => Ev.fieldAddr (o := 1) (o' := ol + i * 3 + 1) rfl (by kernel_rfl) (by omega)) rfl ?_ | refine OpsD.takeNo 15 rfl (by kernel_rfl) rfl rfl H rfl ?_ | refine OpsD.takeOff 15 rfl (by kernel_rfl) rfl rfl H rfl ?_
    first | refine OpsD.takeYes 16 rfl (by kernel_rfl) rfl rfl H (fun w H => Ev.load (v := sV z.val) H rfl (by kernel_rfl) (hat 1 _ rfl).right) rfl ?_ | refine OpsD.takeNo 16 rfl (by kernel_rfl) rfl rfl H rfl ?_ | refine OpsD.takeOff 16 rfl (by kernel_rfl) rfl rfl H rfl ?_
    first | refine OpsD.takeYes 17 rfl (by kernel_rfl) rfl rfl H (fun w H => Ev.strNeR (cs := y.val) (bs := z.val) (r := false) rfl rfl (decide_eq_false (by simpa using h3))) rfl ?_ | refine OpsD.takeNo 17 rfl (by kernel_rfl) rfl rfl H rfl ?_ | refine OpsD.takeOff 17 rfl (by kernel_rfl) rfl rfl H rfl ?_
    refine OpsD.take 18 rfl (by kernel_rfl) H (fun w H => (by first | exact Ev.pickT rfl rfl | exact Ev.pickF rfl rfl)) rfl ?_
    refine OpsD.take 19 rfl (by kernel_rfl) H (fun w H => Ev.move rfl) rfl ?_
    first | refine OpsD.takeYes 20 rfl (by kernel_rfl) rfl rfl H (fun w H => Ev.move rfl) rfl ?_ | refine OpsD.takeNo 20 rfl (by kernel_rfl) rfl rfl H rfl ?_ | refine OpsD.takeOff 20 rfl (by kernel_rfl) rfl rfl H rfl ?_
    first | refine OpsD.takeYes 21 rfl (by kernel_rfl) rfl rfl H (fun w H => Ev.not rfl) rfl ?_ | refine OpsD.takeNo 21 rfl (by kernel_rfl) rfl rfl H rfl ?_ | refine OpsD.takeOff 21 rfl (by kernel_rfl) rfl rfl H rfl ?_
    refine OpsD.take 22 rfl (by kernel_rfl) H (fun w H => (by first | exact Ev.pickT rfl rfl | exact Ev.pickF rfl rfl)) rfl ?_
    refine OpsD.done (by kernel_rfl) ?_
    repeat refine RunsE.seq ?_
    refine RunsE.no rfl ?_
    refine RunsE.skip ?_
    refine RunsE.inBlock ?_
    repeat (first | refine .seq ?_ | refine .skip ?_ | refine .block ?_ | refine .inBlock ?_ | refine .yes rfl ?_ | refine .no rfl ?_ | refine .exit rfl ?_)
    refine RunsE.region ?_
    refine OpsE.ev (Ev.move rfl) rfl ?_
    refine OpsE.ev (Ev.add rfl rfl) rfl ?_
    refine OpsE.ev (Ev.assign rfl) rfl ?_
    refine OpsE.nil ?_
    refine nextL (i + 1) _ _ (by omega) ⟨by omega, ?_, H⟩ ⟨rfl, rfl, rfl, rfl, trivial⟩
    rw [ht, ht2, List.map_append, List.map_append, hlk]
    simp [kvp, h2, h3]
  clear H
  rintro _ w ⟨hkv, H⟩
  repeat (first | refine .seq ?_ | refine .skip ?_ | refine .block ?_ | refine .inBlock ?_ | refine .yes rfl ?_ | refine .no rfl ?_ | refine .exit rfl ?_)
  refine RunsE.region ?_
  refine OpsE.ev (Ev.assign rfl) rfl ?_
  refine OpsE.nil ?_
  repeat (first | refine .seq ?_ | refine .skip ?_ | refine .block ?_ | refine .inBlock ?_ | refine .yes rfl ?_ | refine .no rfl ?_ | refine .exit rfl ?_)
  exact RunsE.ret1 Tryz.func14 rfl rfl ⟨by rw [decide_eq_true hkv], H⟩

end Go.Proofs.YtflfaiakenahlaaGreatDoor
end

section
/-
  The laws' own 'sure', walked.
-/
namespace Go.Proofs.YtflfaiakenahlaaGreatDoor.V

/-- Set, where nothing is armed. -/
theorem set_up {st : St} {fr count : Nat} {l : List Lf} (cs : List Ch) (hd : st.down = false) (hQ : st.Q = []) (har : st.armed = false) (hL : LaidS st.P fr count l) (hok : OkL l count) (hc : count ≤ 256) (hc1 : 1 ≤ count) :
    (setP st fr count l 0 cs).2.2.2 = (setM l count cs).2.2.2 ∧ (setP st fr count l 0 cs).2.1 = (setM l count cs).1 ∧ (setP st fr count l 0 cs).2.2.1 = 0 ∧ (setP st fr count l 0 cs).1.down = false ∧ (setP st fr count l 0 cs).1.Q = [] ∧
      (setP st fr count l 0 cs).1.P.length = st.P.length ∧ LaidS (setP st fr count l 0 cs).1.P fr count (setM l count cs).1 ∧ (setP st fr count l 0 cs).1.armed = false ∧
      ((setM l count cs).2.2.1 = true → (setP st fr count l 0 cs).1.P.getD fr [] = rootM (setM l count cs).1 count) ∧ (∀ p, p < fr ∨ fr + count ≤ p → (setP st fr count l 0 cs).1.P.getD p [] = st.P.getD p []) := by
  rcases set_effect cs hd hQ hL hok hc hc1 with ⟨a1, a2, a3, a4, a5, a6, a7, a8, a9, a10⟩ | ⟨_, _, _, _, a5, _⟩
  · exact ⟨a1, a2, a3, a4, a5, a6, a7, a8 har, a9, a10⟩
  · rw [har] at a5; cases a5

/-- A new store's pages hold no leaf. -/
theorem laid_new {n fr count : Nat} (h : fr + count ≤ n) : LaidS (St.new n).P fr count [] := by
  refine ⟨by simpa [St.new] using h, .inr ⟨rfl, ?_⟩, fun y hy => by cases hy⟩
  simp only [St.new, List.getD_eq_getElem?_getD, List.getElem?_replicate]
  split <;> rfl

abbrev sure1 : List Ch := [⟨[97], [49], false⟩, ⟨[98], [], false⟩]
abbrev sure2 : List Ch := [⟨[97], [], false⟩, ⟨[98], [50], false⟩]
abbrev sureL : List Lf := [⟨[97], [49], 1⟩, ⟨[98], [], 2⟩]
theorem sure_1 : setM [] 4 sure1 = (sureL, 2, true, 0) := by decide +kernel
theorem sure_2 : setM sureL 4 sure2 = (sureL, 0, false, 10) := by decide +kernel

end Go.Proofs.YtflfaiakenahlaaGreatDoor.V
namespace Go.Proofs.YtflfaiakenahlaaGreatDoor
open Go.Proofs.YtflfaiakenahlaaGreatDoor.V

set_option maxHeartbeats 4000000 in
theorem shsure_spec [Strm] (w : World) (F : List (Nat × Obj)) (hg : ErrIn F) (H : SL w F) : Does Tryz.prog 8 #[] w fun r w' => r = .bool true ∧ SL w' F := by
  have hok0 : OkL [] 4 := OkL.nil 4
  have hL0 : LaidS (St.new 9).P 2 4 [] := laid_new (by omega)
  have ho0 := opened (st := St.new 9) rfl hL0 hok0 (by omega)
  obtain ⟨R1, hR1⟩ : ∃ R1, R1 = setP (St.new 9) 2 4 [] 0 sure1 := ⟨_, rfl⟩
  have e1 := set_up (st := St.new 9) sure1 rfl rfl rfl hL0 hok0 (by omega) (by omega)
  have hokL : OkL sureL 4 := by have := set_ok (c := sure1) hok0; rw [sure_1] at this; exact this
  rw [← hR1, sure_1] at e1
  obtain ⟨a1, a2, a3, a4, a5, a6, a7, a8, -, -⟩ := e1
  simp only at a1 a2 a7
  obtain ⟨R2, hR2⟩ : ∃ R2, R2 = setP R1.1 2 4 sureL 0 sure2 := ⟨_, rfl⟩
  have e2 := set_up (st := R1.1) sure2 a4 a5 a8 a7 hokL (by omega) (by omega)
  rw [← hR2, sure_2] at e2
  obtain ⟨c1, c2, c3, c4, c5, c6, c7, c8, -, -⟩ := e2
  simp only at c1 c2 c7
  have ho2 := opened (st := R2.1) c5 c7 hokL (by omega)
  have hP1 : R1.1.P.length = 9 := by rw [a6]; rfl
  have hP2 : R2.1.P.length = 9 := by rw [c6, hP1]
  refine Does.intro (args := []) (e := []) Tryz.func8 rfl Tryz.ntmps8 rfl rfl ?_
  repeat (first | refine .seq ?_ | refine .skip ?_ | refine .block ?_ | refine .inBlock ?_ | refine .yes rfl ?_ | refine .no rfl ?_ | refine .exit rfl ?_)
  repeat (first | refine .seq ?_ | refine .skip ?_ | refine .block ?_ | refine .inBlock ?_ | refine .yes rfl ?_ | refine .no rfl ?_ | refine .exit rfl ?_)
  refine RunsE.region ?_
  refine OpsE.ev (Ev.assign rfl) rfl ?_
  refine OpsE.nil ?_
  repeat (first | refine .seq ?_ | refine .skip ?_ | refine .block ?_ | refine .inBlock ?_ | refine .yes rfl ?_ | refine .no rfl ?_ | refine .exit rfl ?_)
  refine RunsE.region ?_
  refine OpsE.ex (Ex.call rfl Tryz.call9 (new_spec 9 (by omega) (by omega) w F H)) rfl ?_; (try clear H); rintro _ w ⟨p, A, rfl, hA, H⟩
  refine OpsE.ev (Ev.move rfl) rfl ?_
  refine OpsE.ev (Ev.extract rfl rfl) rfl ?_
  refine OpsE.ev (Ev.extract rfl rfl) rfl ?_
  refine OpsE.ev (Ev.assign rfl) rfl ?_
  refine OpsE.ev (Ev.assign rfl) rfl ?_
  refine OpsE.nil ?_
  repeat (first | refine .seq ?_ | refine .skip ?_ | refine .block ?_ | refine .inBlock ?_ | refine .yes rfl ?_ | refine .no rfl ?_ | refine .exit rfl ?_)
  refine RunsE.region ?_
  refine OpsE.ev (Ev.buildSt (pl := [(0, 1), (1, 1)]) (zv := .agg #[.int .i64 0, .int .i64 0]) rfl (by kernel_rfl) (by kernel_rfl) rfl) rfl ?_
  refine OpsE.ex (Ex.alloc (zv := .agg #[.int .i64 0, .int .i64 0]) H (by kernel_rfl)) rfl ?_; (try clear H); rintro _ w ⟨b3, rfl, H⟩; simp only [Value.cells] at H
  refine OpsE.exn (Ex.storeBlk (n := 2) (vs := [.int .i64 2, .int .i64 4]) H rfl rfl (by kernel_rfl) rfl (by simp [Value.oneCell']) u0 rfl (Thaw.zero _ _)) ?_; (try clear H); intro _ w H
  refine OpsE.nil ?_
  obtain ⟨X, hX⟩ : ∃ X, X = (b3, Obj.cells [Value.int .i64 2, .int .i64 4].toArray 35 (0, 0)) :: F := ⟨_, rfl⟩
  replace H : SL w (A ++ X) := by rw [hX]; exact H.mid
  have hb3 : (b3, Obj.cells [Value.int .i64 2, .int .i64 4].toArray 35 (0, 0)) ∈ X := by rw [hX]; exact .head _
  have hgX : ErrIn X := by rw [hX]; exact Rd.tail hg
  have hfin : ∀ {w : World} {Q : List (Nat × Obj)}, SL w (Q ++ X) → SL w F := fun H => by rw [hX] at H; exact H.dropL.drop
  clear hX
  repeat (first | refine .seq ?_ | refine .skip ?_ | refine .block ?_ | refine .inBlock ?_ | refine .yes rfl ?_ | refine .no rfl ?_ | refine .exit rfl ?_)
  refine RunsE.region ?_
  refine OpsE.ev (Ev.move rfl) rfl ?_
  refine OpsE.ev (Ev.loadBlk (n := 2) (vs := [.int .i64 2, .int .i64 4]) H rfl (by kernel_rfl) rfl (List.mem_append_right _ hb3)) rfl ?_
  refine OpsE.ex (Ex.call rfl Tryz.call11 (open_spec p 2 4 (St.new 9) A rfl (by omega) (by omega) (by decide) (by decide) w X hA H)) rfl ?_; (try clear H); rintro r w hr; rw [ho0] at hr; obtain ⟨h, _⟩ | ⟨l, s, m, o, hl, rfl, ho, H⟩ := hr; cases h; cases hl
  refine OpsE.ev (Ev.move rfl) rfl ?_
  refine OpsE.ev (Ev.extract rfl rfl) rfl ?_
  refine OpsE.ev (Ev.extract rfl rfl) rfl ?_
  refine OpsE.ev (Ev.assign rfl) rfl ?_
  refine OpsE.ev (Ev.assign rfl) rfl ?_
  refine OpsE.nil ?_
  repeat (first | refine .seq ?_ | refine .skip ?_ | refine .block ?_ | refine .inBlock ?_ | refine .yes rfl ?_ | refine .no rfl ?_ | refine .exit rfl ?_)
  refine RunsE.region ?_
  refine OpsE.ev (Ev.move rfl) rfl ?_
  refine OpsE.ev (Ev.errNe (n := 0) rfl rfl) rfl ?_
  refine OpsE.ev (Ev.move rfl) rfl ?_
  first | (refine OpsE.yes rfl rfl ?_; refine OpsE.ev (Ev.move rfl) rfl ?_) | refine OpsE.no rfl rfl rfl ?_ | refine OpsE.off rfl rfl rfl ?_
  first | (refine OpsE.yes rfl rfl ?_; refine OpsE.ev (Ev.ptrNilEq (el := 84) rfl rfl (by kernel_rfl)) rfl ?_) | refine OpsE.no rfl rfl rfl ?_ | refine OpsE.off rfl rfl rfl ?_
  refine OpsE.ev ((by first | exact Ev.pickT rfl rfl | exact Ev.pickF rfl rfl)) rfl ?_
  refine OpsE.ev (Ev.move rfl) rfl ?_
  first | (refine OpsE.yes rfl rfl ?_; refine OpsE.ev (Ev.move rfl) rfl ?_) | refine OpsE.no rfl rfl rfl ?_ | refine OpsE.off rfl rfl rfl ?_
  first | (refine OpsE.yes rfl rfl ?_; refine OpsE.ev (Ev.buildSt (pl := [(0, 1), (1, 1), (2, 1)]) (zv := .agg #[.string .empty, .string .empty, .bool false]) rfl (by kernel_rfl) (by kernel_rfl) rfl) rfl ?_) | refine OpsE.no rfl rfl rfl ?_ | refine OpsE.off rfl rfl rfl ?_
  first | (refine OpsE.yes rfl rfl ?_; refine OpsE.ev (Ev.buildSt (pl := [(0, 1), (1, 1), (2, 1)]) (zv := .agg #[.string .empty, .string .empty, .bool false]) rfl (by kernel_rfl) (by kernel_rfl) rfl) rfl ?_) | refine OpsE.no rfl rfl rfl ?_ | refine OpsE.off rfl rfl rfl ?_
  first | (refine OpsE.yes rfl rfl ?_; refine OpsE.ex (Ex.buildSlP (len := 2) (sz := 3) (T := 53) (zv := .agg #[.string .empty, .string .empty, .bool false]) (cs := gC ⟨[97], [49], false⟩ ++ gC ⟨[98], [], false⟩) H rfl (by kernel_rfl) (by kernel_rfl) rfl (by decide) (by decide)) rfl ?_; (try clear H); rintro _ w ⟨b32, rfl, H⟩; obtain ⟨Y1, hY1⟩ : ∃ Y1, Y1 = (b32, Obj.cells (gC ⟨[97], [49], false⟩ ++ gC ⟨[98], [], false⟩).toArray 53 (0, 0)) :: X := ⟨_, rfl⟩; have hs1 : Slc gC 3 53 (.slice (some ⟨b32, 0, none⟩) 2 2) sure1 [(b32, Obj.cells (gC ⟨[97], [49], false⟩ ++ gC ⟨[98], [], false⟩).toArray 53 (0, 0))] := .blk b32 sure1 2 [] (0, 0) (by decide) (by decide) (Thaw.zero _ _); have hv1 : ElsA 3 (ChAt Y1) (.slice (some ⟨b32, 0, none⟩) 2 2) sure1 := (by rw [hY1]; exact hs1.chAt (L := X)); replace H : SL w ((s, shO p 2 4 m 0) :: (m, o) :: (A ++ Y1)) := H.perm (by rw [hY1]; exact perm_of fun a => by simp only [List.count_append, List.count_cons]; omega)) | refine OpsE.no rfl rfl rfl ?_ | refine OpsE.off rfl rfl rfl ?_
  first | (refine OpsE.yes rfl rfl ?_; refine OpsE.ex (Ex.call rfl Tryz.call16 (set_spec s p 2 4 m 0 o (St.new 9) [] sure1 _ A hok0 (by omega) (by omega) (by omega) (by decide) (by decide) (by decide) w Y1 hv1 ho hA H)) rfl ?_; (try clear H); rintro _ w ⟨m1, o1, A1, rfl, ho1, hA1, H⟩; rw [← hR1, a2] at ho1; rw [← hR1] at hA1; rw [← hR1, a3, hY1] at H; rw [← hR1, a1]; replace H : SL w ((s, shO p 2 4 m1 0) :: (m1, o1) :: (A1 ++ X)) := H.less [(b32, Obj.cells (gC ⟨[97], [49], false⟩ ++ gC ⟨[98], [], false⟩).toArray 53 (0, 0))] (perm_of fun a => by simp only [List.count_append, List.count_cons, List.count_nil]; omega)) | refine OpsE.no rfl rfl rfl ?_ | refine OpsE.off rfl rfl rfl ?_
  first | (refine OpsE.yes rfl rfl ?_; refine OpsE.ev (Ev.errNe (n := 0) rfl rfl) rfl ?_) | refine OpsE.no rfl rfl rfl ?_ | refine OpsE.off rfl rfl rfl ?_
  refine OpsE.ev ((by first | exact Ev.pickT rfl rfl | exact Ev.pickF rfl rfl)) rfl ?_
  refine OpsE.ev (Ev.move rfl) rfl ?_
  first | (refine OpsE.yes rfl rfl ?_; refine OpsE.ev (Ev.move rfl) rfl ?_) | refine OpsE.no rfl rfl rfl ?_ | refine OpsE.off rfl rfl rfl ?_
  first | (refine OpsE.yes rfl rfl ?_; refine OpsE.ex (Ex.call rfl Tryz.call20 (freen_spec s p 2 4 m1 0 o1 sureL (by omega) (by decide) w _ (.head _) (.tail _ (.head _)) ho1 H)) rfl ?_; (try clear H); rintro _ w ⟨rfl, H⟩) | refine OpsE.no rfl rfl rfl ?_ | refine OpsE.off rfl rfl rfl ?_
  first | (refine OpsE.yes rfl rfl ?_; refine OpsE.ev (Ev.neq (r := false) rfl rfl rfl) rfl ?_) | refine OpsE.no rfl rfl rfl ?_ | refine OpsE.off rfl rfl rfl ?_
  refine OpsE.ev ((by first | exact Ev.pickT rfl rfl | exact Ev.pickF rfl rfl)) rfl ?_
  refine OpsE.nil ?_
  repeat refine RunsE.seq ?_
  refine RunsE.no rfl ?_
  repeat (first | refine .seq ?_ | refine .skip ?_ | refine .block ?_ | refine .inBlock ?_ | refine .yes rfl ?_ | refine .no rfl ?_ | refine .exit rfl ?_)
  refine RunsE.region ?_
  refine OpsE.ev (Ev.move rfl) rfl ?_
  refine OpsE.ev (Ev.buildSt (pl := [(0, 1), (1, 1), (2, 1)]) (zv := .agg #[.string .empty, .string .empty, .bool false]) rfl (by kernel_rfl) (by kernel_rfl) rfl) rfl ?_
  refine OpsE.ev (Ev.buildSt (pl := [(0, 1), (1, 1), (2, 1)]) (zv := .agg #[.string .empty, .string .empty, .bool false]) rfl (by kernel_rfl) (by kernel_rfl) rfl) rfl ?_
  refine OpsE.ex (Ex.buildSlP (len := 2) (sz := 3) (T := 53) (zv := .agg #[.string .empty, .string .empty, .bool false]) (cs := gC ⟨[97], [], false⟩ ++ gC ⟨[98], [50], false⟩) H rfl (by kernel_rfl) (by kernel_rfl) rfl (by decide) (by decide)) rfl ?_; (try clear H); rintro _ w ⟨b44, rfl, H⟩; obtain ⟨Y2, hY2⟩ : ∃ Y2, Y2 = (b44, Obj.cells (gC ⟨[97], [], false⟩ ++ gC ⟨[98], [50], false⟩).toArray 53 (0, 0)) :: X := ⟨_, rfl⟩; have hs2 : Slc gC 3 53 (.slice (some ⟨b44, 0, none⟩) 2 2) sure2 [(b44, Obj.cells (gC ⟨[97], [], false⟩ ++ gC ⟨[98], [50], false⟩).toArray 53 (0, 0))] := .blk b44 sure2 2 [] (0, 0) (by decide) (by decide) (Thaw.zero _ _); have hv2 : ElsA 3 (ChAt Y2) (.slice (some ⟨b44, 0, none⟩) 2 2) sure2 := (by rw [hY2]; exact hs2.chAt (L := X)); replace H : SL w ((s, shO p 2 4 m1 0) :: (m1, o1) :: (A1 ++ Y2)) := H.perm (by rw [hY2]; exact perm_of fun a => by simp only [List.count_append, List.count_cons]; omega)
  refine OpsE.ex (Ex.call rfl Tryz.call16 (set_spec s p 2 4 m1 0 o1 R1.1 sureL sure2 _ A1 hokL (by omega) (by omega) (by omega) (by rw [a5]; decide) (by decide) (by decide) w Y2 hv2 ho1 hA1 H)) rfl ?_; (try clear H); rintro _ w ⟨m2, o2, A2, rfl, ho2', hA2, H⟩; rw [← hR2] at hA2; rw [← hR2, hY2] at H; rw [← hR2, c1]; replace H : SL w (A2 ++ X) := H.less [(s, shO p 2 4 m2 R2.2.2.1), (m2, o2), (b44, Obj.cells (gC ⟨[97], [], false⟩ ++ gC ⟨[98], [50], false⟩).toArray 53 (0, 0))] (perm_of fun a => by simp only [List.count_append, List.count_cons, List.count_nil]; omega)
  refine OpsE.ev (Ev.assign rfl) rfl ?_
  refine OpsE.nil ?_
  repeat (first | refine .seq ?_ | refine .skip ?_ | refine .block ?_ | refine .inBlock ?_ | refine .yes rfl ?_ | refine .no rfl ?_ | refine .exit rfl ?_)
  refine RunsE.region ?_
  refine OpsE.ev (Ev.move rfl) rfl ?_
  refine OpsE.ev (Ev.loadBlk (n := 2) (vs := [.int .i64 2, .int .i64 4]) H rfl (by kernel_rfl) rfl (List.mem_append_right _ hb3)) rfl ?_
  refine OpsE.ex (Ex.call rfl Tryz.call11 (open_spec p 2 4 R2.1 A2 c4 (by omega) (by omega) (by omega) (by rw [c5]; decide) w X hA2 H)) rfl ?_; (try clear H); rintro r w hr; rw [ho2] at hr; obtain ⟨h, _⟩ | ⟨l, s', m', o', hl, rfl, ho', H⟩ := hr; cases h; cases hl
  refine OpsE.ev (Ev.move rfl) rfl ?_
  refine OpsE.ev (Ev.extract rfl rfl) rfl ?_
  refine OpsE.ev (Ev.extract rfl rfl) rfl ?_
  refine OpsE.ev (Ev.assign rfl) rfl ?_
  refine OpsE.ev (Ev.assign rfl) rfl ?_
  refine OpsE.nil ?_
  repeat (first | refine .seq ?_ | refine .skip ?_ | refine .block ?_ | refine .inBlock ?_ | refine .yes rfl ?_ | refine .no rfl ?_ | refine .exit rfl ?_)
  refine RunsE.region ?_
  refine OpsE.ev (Ev.move rfl) rfl ?_
  refine OpsE.ev (Ev.errNe (n := 0) rfl rfl) rfl ?_
  refine OpsE.ev (Ev.move rfl) rfl ?_
  first | (refine OpsE.yes rfl rfl ?_; refine OpsE.ev (Ev.move rfl) rfl ?_) | refine OpsE.no rfl rfl rfl ?_ | refine OpsE.off rfl rfl rfl ?_
  first | (refine OpsE.yes rfl rfl ?_; refine OpsE.ev (Ev.ptrNilEq (el := 84) rfl rfl (by kernel_rfl)) rfl ?_) | refine OpsE.no rfl rfl rfl ?_ | refine OpsE.off rfl rfl rfl ?_
  refine OpsE.ev ((by first | exact Ev.pickT rfl rfl | exact Ev.pickF rfl rfl)) rfl ?_
  refine OpsE.nil ?_
  repeat refine RunsE.seq ?_
  refine RunsE.no rfl ?_
  repeat (first | refine .seq ?_ | refine .skip ?_ | refine .block ?_ | refine .inBlock ?_ | refine .yes rfl ?_ | refine .no rfl ?_ | refine .exit rfl ?_)
  refine RunsE.region ?_
  refine OpsE.ev (Ev.move rfl) rfl ?_
  refine OpsE.ex (Ex.call rfl Tryz.call19 (get_spec s' p 2 4 m' 0 o' sureL [97] w _ (.head _) (.tail _ (.head _)) ho' H)) rfl ?_; (try clear H); rintro _ w ⟨rfl, H⟩
  refine OpsE.ev (Ev.move rfl) rfl ?_
  refine OpsE.ev (Ev.extract (v := sV [49]) rfl rfl) rfl ?_
  refine OpsE.ev (Ev.extract (v := .bool true) rfl rfl) rfl ?_
  refine OpsE.ev (Ev.assign rfl) rfl ?_
  refine OpsE.ev (Ev.assign rfl) rfl ?_
  refine OpsE.nil ?_
  repeat (first | refine .seq ?_ | refine .skip ?_ | refine .block ?_ | refine .inBlock ?_ | refine .yes rfl ?_ | refine .no rfl ?_ | refine .exit rfl ?_)
  refine RunsE.region ?_
  refine OpsE.ev (Ev.move rfl) rfl ?_
  refine OpsE.ex (Ex.call rfl Tryz.call12 (num_EV 10 w _ (Rd.tail (Rd.tail (Rd.right hgX))) H)) rfl ?_; (try clear H); rintro _ w ⟨rfl, H⟩
  refine OpsE.ev (Ev.eql (r := true) rfl rfl rfl) rfl ?_
  refine OpsE.ev (Ev.move rfl) rfl ?_
  first | (refine OpsE.yes rfl rfl ?_; refine OpsE.ev (Ev.move rfl) rfl ?_) | refine OpsE.no rfl rfl rfl ?_ | refine OpsE.off rfl rfl rfl ?_
  first | (refine OpsE.yes rfl rfl ?_; refine OpsE.ev (Ev.strEqR (cs := [49]) (bs := [49]) (r := true) rfl rfl rfl) rfl ?_) | refine OpsE.no rfl rfl rfl ?_ | refine OpsE.off rfl rfl rfl ?_
  refine OpsE.ev ((by first | exact Ev.pickT rfl rfl | exact Ev.pickF rfl rfl)) rfl ?_
  refine OpsE.ev (Ev.move rfl) rfl ?_
  first | (refine OpsE.yes rfl rfl ?_; refine OpsE.ev (Ev.move rfl) rfl ?_) | refine OpsE.no rfl rfl rfl ?_ | refine OpsE.off rfl rfl rfl ?_
  refine OpsE.ev ((by first | exact Ev.pickT rfl rfl | exact Ev.pickF rfl rfl)) rfl ?_
  refine OpsE.ev (Ev.move rfl) rfl ?_
  first | (refine OpsE.yes rfl rfl ?_; refine OpsE.ev (Ev.move rfl) rfl ?_) | refine OpsE.no rfl rfl rfl ?_ | refine OpsE.off rfl rfl rfl ?_
  first | (refine OpsE.yes rfl rfl ?_; refine OpsE.ex (Ex.call rfl Tryz.call21 (keys_spec s' p 2 4 m' 0 o' sureL (by decide) hokL.srt w _ (.head _) (.tail _ (.head _)) ho' H)) rfl ?_; (try clear H); rintro vk w ⟨Bk, hk, H⟩; obtain ⟨ak, ck, rfl, hck⟩ := hk.leCap) | refine OpsE.no rfl rfl rfl ?_ | refine OpsE.off rfl rfl rfl ?_
  first | (refine OpsE.yes rfl rfl ?_; refine OpsE.ev (Ev.lenSl (d := 9) rfl rfl (by kernel_rfl)) rfl ?_) | refine OpsE.no rfl rfl rfl ?_ | refine OpsE.off rfl rfl rfl ?_
  first | (refine OpsE.yes rfl rfl ?_; refine OpsE.ev (Ev.eql (r := true) rfl rfl rfl) rfl ?_) | refine OpsE.no rfl rfl rfl ?_ | refine OpsE.off rfl rfl rfl ?_
  refine OpsE.ev ((by first | exact Ev.pickT rfl rfl | exact Ev.pickF rfl rfl)) rfl ?_
  refine OpsE.ev (Ev.assign rfl) rfl ?_
  refine OpsE.nil ?_
  repeat (first | refine .seq ?_ | refine .skip ?_ | refine .block ?_ | refine .inBlock ?_ | refine .yes rfl ?_ | refine .no rfl ?_ | refine .exit rfl ?_)
  exact RunsE.ret1 Tryz.func8 rfl rfl ⟨rfl, hfin (Q := A2) H.dropL.drop.drop⟩

end Go.Proofs.YtflfaiakenahlaaGreatDoor
end

section
/-
  Plain facts for the laws: changes of one key; what any pages hold.
-/
namespace Go.Proofs.YtflfaiakenahlaaGreatDoor.V

abbrev oneC (k : List UInt8) (vs : List (List UInt8)) : List Ch := vs.map fun v => ⟨k, v, false⟩

theorem lasts_one {k v : List UInt8} {vs : List (List UInt8)} : lastsM (oneC k (vs ++ [v])) = [⟨k, v, false⟩] := by
  unfold oneC
  rw [List.map_append, List.map_cons, List.map_nil, lasts_snoc, List.filter_eq_nil_iff.2]
  · rfl
  · intro y hy
    obtain ⟨u, _, rfl⟩ := List.mem_map.1 (lasts_sub.subset hy)
    simp

theorem one_page {k v : List UInt8} (hk : k.length ≤ 50) (hv : v.length ≤ 50) : (pageM k v).length ≤ 4096 := by
  have h1 := encB_len k
  have h2 := encB_len v
  unfold pageM
  rw [List.length_append]
  omega

/-- Some changes of one key: the last one is laid. -/
theorem one_first {k v : List UInt8} {vs : List (List UInt8)} (hk : k.length ≤ 50) (hv : v.length ≤ 50) : setM [] 3 (oneC k (vs ++ [v])) = ([⟨k, v, 1⟩], 1, true, 0) := by
  have hc : changesM [] (oneC k (vs ++ [v])) = [⟨k, v, false⟩] := by
    unfold changesM
    rw [lasts_one]
    rfl
  have hl : ¬ 4096 < (pageM k v).length := Nat.not_lt.2 (one_page hk hv)
  unfold setM
  rw [hc]
  rw [if_neg (by simpa using Nat.not_lt.1 hl), if_neg (by simp)]
  rfl

theorem find_self {y : Lf} : findL [y] y.key = some y := by
  unfold findL
  rw [List.find?_cons_of_pos (by simp)]

/-- Once more: nothing changes. -/
theorem one_again {k v : List UInt8} {vs : List (List UInt8)} : setM [⟨k, v, 1⟩] 3 (oneC k (vs ++ [v])) = ([⟨k, v, 1⟩], 0, false, 0) := by
  have hs : sameM [⟨k, v, 1⟩] ⟨k, v, false⟩ = true := by
    rw [same_some (y := ⟨k, v, 1⟩) (find_self (y := ⟨k, v, 1⟩))]
    simp
  have hc : changesM [⟨k, v, 1⟩] (oneC k (vs ++ [v])) = [] := by
    unfold changesM
    rw [lasts_one, List.filter_cons_of_neg (by rw [hs]; decide)]
    rfl
  unfold setM
  rw [hc]
  rfl

/-- The key goes: nothing is left. -/
theorem one_gone {k v : List UInt8} : setM [⟨k, v, 1⟩] 3 [⟨k, [], true⟩] = ([], 0, true, 0) := by
  have hs : sameM [⟨k, v, 1⟩] ⟨k, [], true⟩ = false := by
    rw [same_some (y := ⟨k, v, 1⟩) (find_self (y := ⟨k, v, 1⟩))]
    rfl
  have hc : changesM [⟨k, v, 1⟩] [⟨k, [], true⟩] = [⟨k, [], true⟩] := by
    unfold changesM
    rw [show ([⟨k, [], true⟩] : List Ch) = [] ++ [⟨k, [], true⟩] from rfl, lasts_snoc]
    show List.foldl _ [] (List.filter _ [_]) = _
    rw [List.filter_cons_of_pos (by rw [hs]; decide)]
    rfl
  have hd : delL [⟨k, v, 1⟩] k = [] := by
    unfold delL
    rw [List.filter_cons_of_neg (by simp)]
    rfl
  unfold setM
  rw [hc]
  rw [if_neg (by simp), if_neg (by simp)]
  show (delL [⟨k, v, 1⟩] k, 0, true, 0) = _
  rw [hd]

/-! ### What any pages hold -/

theorem loop_good {count : Nat} {pg : Nat → List UInt8} : ∀ (n : Nat) (R : RdM) (last : Nat) (l : List Lf) (R' : RdM) (l' : List Lf), openLoop count pg n R last l = some (R', l') → SrtL l → SrtL l' ∧ l'.length = l.length + n
  | 0, R, last, l, R', l', h, hs => by
    unfold openLoop at h
    cases h
    exact ⟨hs, rfl⟩
  | n + 1, R, last, l, R', l', h, hs => by
    unfold openLoop at h
    split at h
    · cases h
    split at h
    · cases h
    rename_i h1 h2
    have hf : ∀ y ∈ l, y.key ≠ (bytesM 4096 (pg (uintM (count - 1) R).2, 0)).2 := by
      intro y hy he
      refine h2 (.inr ?_)
      unfold findL
      exact List.find?_isSome.2 ⟨y, hy, by simpa using he⟩
    obtain ⟨g1, g2⟩ := loop_good n _ _ _ _ _ h (insK_sorted Lf.key hs hf)
    refine ⟨g1, ?_⟩
    rw [g2, (insK_perm Lf.key l _).length_eq, List.length_cons]
    omega

/-- What is opened is sorted, and not more than there is room for. -/
theorem open_good {count : Nat} {pg : Nat → List UInt8} {l : List Lf} (h : openM count pg = some l) : SrtL l ∧ l.length ≤ count - 1 := by
  unfold openM at h
  split at h
  · cases h
    exact ⟨.nil, Nat.zero_le _⟩
  split at h
  · cases h
  rename_i R l' hl
  split at h
  · cases h
  cases h
  obtain ⟨g1, g2⟩ := loop_good _ _ _ _ _ _ hl .nil
  refine ⟨g1, ?_⟩
  rw [g2, List.length_nil, Nat.zero_add]
  exact countM_le _ _

theorem loop_congr {count : Nat} {pg pg' : Nat → List UInt8} (h : ∀ i, i ≤ count - 1 → pg i = pg' i) : ∀ (n : Nat) (R : RdM) (last : Nat) (l : List Lf), openLoop count pg n R last l = openLoop count pg' n R last l
  | 0, _, _, _ => rfl
  | n + 1, R, last, l => by
    unfold openLoop
    rw [h _ (uintM_le _ _), loop_congr h n]

theorem open_congr {count : Nat} {pg pg' : Nat → List UInt8} (h : ∀ i, i ≤ count - 1 → pg i = pg' i) : openM count pg = openM count pg' := by
  unfold openM
  rw [h 0 (Nat.zero_le _), loop_congr h]

/-! ### Pages, written one by one -/

theorem lastW_snoc {Q : List (Nat × List UInt8)} {q : Nat × List UInt8} {p : Nat} : ∀ k, k ≤ Q.length → lastW (Q ++ [q]) p k = lastW Q p k
  | 0, _ => rfl
  | k + 1, hk => by
    have e : (Q ++ [q]).getD k (0, []) = Q.getD k (0, []) := by
      rw [List.getD_eq_getElem?_getD, List.getElem?_append_left (by omega), ← List.getD_eq_getElem?_getD]
    unfold lastW
    rw [e, lastW_snoc k (by omega)]

/-- The store behind one more write. -/
theorem page_write {s s' : St} {p : Nat} {bs : List UInt8} (hP : s'.P = s.P) (hQ : s'.Q = s.Q ++ [(p, bs)]) (j : Nat) : s'.page j = if j = p then bs else s.page j := by
  unfold St.page
  rw [hP, hQ, List.length_append, List.length_cons, List.length_nil]
  have e : (s.Q ++ [(p, bs)]).getD s.Q.length (0, []) = (p, bs) := by
    rw [List.getD_eq_getElem?_getD, List.getElem?_append_right (Nat.le_refl _), Nat.sub_self]
    rfl
  have e2 : lastW (s.Q ++ [(p, bs)]) j (s.Q.length + 1) = if ((s.Q ++ [(p, bs)]).getD s.Q.length (0, [])).1 = j then some ((s.Q ++ [(p, bs)]).getD s.Q.length (0, [])).2 else lastW (s.Q ++ [(p, bs)]) j s.Q.length := rfl
  show (lastW (s.Q ++ [(p, bs)]) j (s.Q.length + 1)).getD _ = _
  rw [e2, e]
  by_cases h : j = p
  · rw [if_pos h.symm, if_pos h]
    rfl
  · rw [if_neg fun he => h he.symm, if_neg h, lastW_snoc _ (Nat.le_refl _)]

/-- A store, so far as pages were written to it. -/
structure Wrote (st : St) (ls : List (List UInt8)) (i : Nat) : Prop where
  len : st.P.length = ls.length
  q : st.Q.length = i
  up : st.down = false
  arm : st.armed = false
  at_ : ∀ j, j < i → st.page j = ls.getD j []

theorem Wrote.zero {ls : List (List UInt8)} : Wrote (St.new ls.length) ls 0 := ⟨by simp [St.new], rfl, rfl, rfl, fun _ h => by omega⟩

theorem Wrote.next {st : St} {ls : List (List UInt8)} {i : Nat} (h : Wrote st ls i) (hi : i < ls.length) (hb : (ls.getD i []).length ≤ 4096) : (st.write (i : Int) (ls.getD i [])).2 = 0 ∧ Wrote (st.write (i : Int) (ls.getD i [])).1 ls (i + 1) := by
  rcases write_cases st i (ls.getD i []) h.up (by rw [h.len]; exact hi) hb with ⟨a1, a2, a3, a4, a5⟩ | ⟨_, _, _, _, a5⟩
  · refine ⟨a1, by rw [a2, h.len], by rw [a3, List.length_append, h.q]; rfl, a4, a5 h.arm, fun j hj => ?_⟩
    rw [page_write a2 a3]
    by_cases hji : j = i
    · rw [if_pos hji, hji]
    · rw [if_neg hji]
      exact h.at_ j (by omega)
  · rw [h.arm] at a5
    cases a5

/-- What is opened, of pages that were written. -/
theorem Wrote.open {st : St} {ls : List (List UInt8)} (h : Wrote st ls ls.length) {fr count : Nat} (hc : 1 ≤ count) (hr : fr + count ≤ ls.length) :
    openM count (fun i => st.page (fr + i)) = openM ((ls.take (fr + count)).drop fr).length (fun i => ((ls.take (fr + count)).drop fr).getD i []) := by
  have e : ((ls.take (fr + count)).drop fr).length = count := by
    rw [List.length_drop, List.length_take]
    omega
  rw [e]
  refine open_congr fun i hi => ?_
  rw [h.at_ _ (by omega), List.getD_eq_getElem?_getD, List.getD_eq_getElem?_getD, List.getElem?_drop, List.getElem?_take_of_lt (by omega)]

section
variable {P : Program} {w : World} {e : Env} {t ty : TypeId} {x : Operand}
/-- A slice of a slice, where there is room behind its head. -/
theorem Ev.slAt {b off len cap el sz l h o n' c' : Nat} {lo hi : Option Operand} (hx : e.val x = some (.slice (some ⟨b, off, none⟩) len cap)) (ht : slT P t = some (el, sz))
    (hlo : match lo with | none => l = 0 | some o => ∃ k, e.val o = some (.int k (l : Nat))) (hhi : match hi with | none => h = len | some o => ∃ k, e.val o = some (.int k (h : Nat)))
    (h1 : l ≤ h) (h2 : h ≤ cap) (hc : l < cap) (ho : off + l * sz = o) (hn : h - l = n') (hc' : cap - l = c') (hle : len ≤ cap) : Ev P w e (.slice t x lo hi none) ty (.slice (some ⟨b, o, none⟩) n' c') := by
  have h3 := Ev.slSl (ty := ty) (w := w) hx ht hlo hhi h1 h2 hle
  subst ho hn hc'
  have e1 : cutAddr (some (⟨b, off, none⟩ : Addr)) l cap sz = some ⟨b, off + l * sz, none⟩ := by
    unfold cutAddr
    rw [if_neg (by omega)]
    simp [add_none]
  rw [e1] at h3
  exact h3
end

end Go.Proofs.YtflfaiakenahlaaGreatDoor.V
end

section
/-
  What the bound of an '..UptoSaid' gives (the kit's template for it, and the length of a slice).
-/
namespace Go.Proofs.YtflfaiakenahlaaGreatDoor.bulks

theorem one_le {H : Type} (d : DataW H) : 1 ≤ Rows.uptoBulk d := by
  cases d with
  | lit l => cases l <;> simp [Rows.uptoBulk]
  | nil => simp [Rows.uptoBulk]
  | ptr d => simp [Rows.uptoBulk]
  | slice elems spare => simp [Rows.uptoBulk]
  | agg parts => simp [Rows.uptoBulk]
  | iface t d => simp [Rows.uptoBulk]
  | map entries => simp [Rows.uptoBulk]
  | held h => simp [Rows.uptoBulk]

/-- a part's bulk is at most the whole's -/
theorem part_le {H : Type} {d : DataW H} {l : List (DataW H)} (h : d ∈ l) : Rows.uptoBulk d ≤ Rows.uptoBulkAll l := by
  induction l with
  | nil => cases h
  | cons x r ih =>
    simp only [Rows.uptoBulkAll]
    cases List.mem_cons.1 h with
    | inl e => subst e; omega
    | inr e => have := ih e; omega

theorem append {H : Type} (l r : List (DataW H)) : Rows.uptoBulkAll (l ++ r) = Rows.uptoBulkAll l + Rows.uptoBulkAll r := by
  induction l with
  | nil => simp [Rows.uptoBulkAll]
  | cons x l ih => simp only [List.cons_append, Rows.uptoBulkAll, ih]; omega

/-- so many values at the most -/
theorem length_le {H : Type} (l : List (DataW H)) : l.length ≤ Rows.uptoBulkAll l := by
  induction l with
  | nil => simp [Rows.uptoBulkAll]
  | cons x r ih => have := one_le x; simp only [Rows.uptoBulkAll, List.length_cons]; omega

/-- a slice's places, and what they hold -/
theorem slice_le {H : Type} (elems spare : List (DataW H)) : elems.length + spare.length + 1 ≤ Rows.uptoBulk (.slice elems spare) := by
  have h1 := length_le elems
  have h2 := length_le spare
  simp only [Rows.uptoBulk]
  omega
theorem slice_elems {H : Type} (elems spare : List (DataW H)) : Rows.uptoBulkAll elems + 1 ≤ Rows.uptoBulk (.slice elems spare) := by
  simp only [Rows.uptoBulk]
  omega

/-- a string's letters -/
theorem string_eq {H : Type} (bytes : List UInt8) : Rows.uptoBulk (DataW.lit (H := H) (.string bytes)) = bytes.length + 1 := by
  simp [Rows.uptoBulk]

/-- THE BOUND, as the builder hands it over ('hk') -/
theorem bound {H : Type} {l : List (DataW H)} (hk : Rows.uptoSmall H l = true) : Rows.uptoBulkAll l ≤ 1048576 := by
  simpa [Rows.uptoSmall] using hk

open Go.Proofs.YtflfaiakenahlaaGreatDoor.V in
/-- The length of a slice that came in. -/
theorem len_le {H : Type} {enc : TypeId × Value → H} {P : Program} {w : World} {t e : TypeId} {a : Option Addr} {n c : Nat} {d : DataW H} {ps : List MemPlace} (ht : P.underlying t = some (.slice e))
    (h : DataW.Trod enc P w 0 (fun _ => true) true t (.slice a n c) d ps) : n ≤ Rows.uptoBulk d := by
  obtain ⟨fuel, hf⟩ := h
  rcases Go.Deep.open_slice ht hf with ⟨hcs, _⟩ | ⟨a', len, cap, m, k, D, Pl, hcs, _, hl, hm, hmm, hx, _⟩
  · simp [Value.cells] at hcs
    obtain ⟨rfl, rfl, rfl⟩ := hcs
    omega
  · simp [Value.cells] at hcs
    obtain ⟨rfl, rfl, rfl⟩ := hcs
    have hd := congrArg Prod.fst hx
    simp only at hd
    subst hd
    have := slice_le ((List.range n).map D) ((List.range (m - n)).map fun j => D (n + j))
    simp only [List.length_map, List.length_range] at this
    omega

open Go.Proofs.YtflfaiakenahlaaGreatDoor.V in
/-- What a reading holds is of no greater bulk. -/
theorem parts_bulk {H : Type} {d' d : DataW H} (h : d' ∈ partsOf d) : Rows.uptoBulk d' ≤ Rows.uptoBulk d := by
  cases d with
  | slice elems spare =>
    have := part_le (show d' ∈ elems from h)
    have := slice_elems elems spare
    omega
  | agg parts =>
    have := part_le (show d' ∈ parts from h)
    simp only [Rows.uptoBulk]
    omega
  | _ => simp [partsOf] at h

end Go.Proofs.YtflfaiakenahlaaGreatDoor.bulks
end

section
/-
  What comes in to the laws of layer 10: strings, changes, lists of changes.
-/
namespace Go.Proofs.YtflfaiakenahlaaGreatDoor.V
open Go.ChangeShapes Go.WideShapes Go.ChangeAt Go.RowKit

/-- Strings that came in. -/
def StrsIn (L : List (Nat × Obj)) : Value → List (List UInt8) → Prop := Els L fun v s => v = .string ⟨s.toArray⟩

section
variable {H : Type} {enc : TypeId × Value → H} {P : Program} {w : World}
theorem str_cell {t n : Nat} {u : Value} {x : DataW H × List MemPlace} (ht : P.underlying t = some .string) (h : DataW.trod enc P w 0 (fun _ => true) true n t [u] = some x) : ∃ s : List UInt8, u = .string ⟨s.toArray⟩ ∧ s.length ≤ maxLen := by
  obtain ⟨s, h1, h2, h3⟩ := DataW.trod_string ht h
  obtain rfl : u = .string s := by simpa using h1
  exact ⟨s.data.toList, by simp, by simpa using h3⟩

theorem strs_in {t e : TypeId} {v : Value} {d : DataW H} {ps : List MemPlace} (ht : P.underlying t = some (.slice e)) (he : P.underlying e = some .string) (hc : P.cellsOf e = 1)
    (hs : ∃ a len cap, v = .slice a len cap) (h : DataW.Trod enc P w 0 (fun _ => true) true t v d ps) : ∃ zs : List (List UInt8), zs.length ≤ maxLen ∧ StrsIn (oldL w) v zs :=
  els_in ht hc (fun _ _ _ h => (str_cell he h).imp fun _ h => h.1) hs h
end

/-- A change that came in: read, and of a length that there may be. -/
def ChIn (L : List (Nat × Obj)) (b off : Nat) (c : Ch) : Prop := ChAt L b off c ∧ c.key.length ≤ 1048576 ∧ c.val.length ≤ 1048576
/-- Changes that came in, at a place. -/
def ChsIn (L : List (Nat × Obj)) (b off : Nat) (cs : List Ch) : Prop := ∃ u, Rd L ⟨b, off, none⟩ u ∧ cs.length ≤ 9223372036854775807 ∧ ElsA 3 (ChIn L) u cs
/-- Lists of changes that came in. -/
abbrev ChssIn (L : List (Nat × Obj)) (v : Value) (l : List (List Ch)) : Prop := ElsA 1 (ChsIn L) v l

theorem ChIn.sub {L L' : List (Nat × Obj)} {b off : Nat} {c : Ch} (h : ChIn L b off c) (hs : ∀ p ∈ L, p ∈ L') : ChIn L' b off c := ⟨h.1.sub hs, h.2⟩

theorem ChIn.all {L : List (Nat × Obj)} {v : Value} {cs : List Ch} (h : ElsA 3 (ChIn L) v cs) : ∀ c ∈ cs, c.key.length ≤ 1048576 ∧ c.val.length ≤ 1048576 := by
  intro c hc
  obtain ⟨i, hi⟩ := List.getElem?_of_mem hc
  cases h with
  | nil => simp at hi
  | empty a c => simp at hi
  | blk b off cap xs hcap hr => exact (hr i c hi).2

end Go.Proofs.YtflfaiakenahlaaGreatDoor.V
namespace Go.Proofs.YtflfaiakenahlaaGreatDoor
open Go.Proofs.YtflfaiakenahlaaGreatDoor.V
open Go.ChangeShapes Go.WideShapes Go.ChangeAt Go.RowKit

theorem str_bulk {H : Type} {enc : TypeId × Value → H} {P : Program} {w : World} {t n : Nat} {u : Value} {x : DataW H × List MemPlace} (ht : P.underlying t = some .string) (h : DataW.trod enc P w 0 (fun _ => true) true n t [u] = some x) : ∃ s : List UInt8, u = .string ⟨s.toArray⟩ ∧ s.length ≤ Rows.uptoBulk x.1 := by
  obtain ⟨s, h1, h2, h3⟩ := DataW.trod_string ht h
  obtain rfl : u = .string s := by simpa using h1
  refine ⟨s.data.toList, by simp, ?_⟩
  have := bulks.string_eq (H := H) s.data.toList
  rw [h2]
  simp only
  omega

theorem chs_in {H : Type} {enc : TypeId × Value → H} {w : World} {v : Value} {d : DataW H} {ps : List MemPlace} (hs : ∃ a len cap, v = .slice a len cap) (hb : Rows.uptoBulk d ≤ 1048576)
    (h : DataW.Trod enc Tryz.prog w 0 (fun _ => true) true 44 v d ps) : ∃ xs : List Ch, xs.length ≤ maxLen ∧ ElsA 3 (ChIn (oldL w)) v xs := by
  refine elsA_in Tryz.underlying44 (by kernel_rfl) (by decide) (fun n b off cs x hl hc hx hxd => ?_) hs h
  obtain ⟨m, hf⟩ := fields_at Tryz.underlying104 (by kernel_rfl) (by kernel_rfl) hx
  obtain ⟨v0, y0, c0, t0, p0⟩ := hf 0 _ rfl
  obtain ⟨v1, y1, c1, t1, p1⟩ := hf 1 _ rfl
  obtain ⟨v2, y2, c2, t2, _⟩ := hf 2 _ rfl
  obtain ⟨s0, rfl, w0⟩ := str_bulk Tryz.underlying9 t0
  obtain ⟨s1, rfl, w1⟩ := str_bulk Tryz.underlying9 t1
  obtain ⟨s2, rfl⟩ := bool_cell Tryz.underlying4 t2
  have h0 := bulks.parts_bulk hxd
  have h1 := bulks.parts_bulk p0
  have h2 := bulks.parts_bulk p1
  refine ⟨⟨s0, s1, s2⟩, fun j v hj => ?_, by simp only; omega, by simp only; omega⟩
  match j, hj with
  | 0, h' => cases h'; exact hc 0 _ c0
  | 1, h' => cases h'; exact hc 1 _ c1
  | 2, h' => cases h'; exact hc 2 _ c2
  | j + 3, h' => simp at h'

theorem chss_in {H : Type} {enc : TypeId × Value → H} {w : World} {v : Value} {d : DataW H} {ps : List MemPlace} (hs : ∃ a len cap, v = .slice a len cap) (hb : Rows.uptoBulk d ≤ 1048576)
    (h : DataW.Trod enc Tryz.prog w 0 (fun _ => true) true 42 v d ps) : ∃ xs : List (List Ch), xs.length ≤ maxLen ∧ ChssIn (oldL w) v xs := by
  refine elsA_in Tryz.underlying42 (by kernel_rfl) (by decide) (fun n b off cs x hl hc hx hxd => ?_) hs h
  obtain ⟨u, rfl⟩ : ∃ u, cs = [u] := List.length_eq_one_iff.1 hl
  have hs : ∃ a len cap, u = .slice a len cap := by
    rcases Go.Deep.open_slice Tryz.underlying44 hx with ⟨hcs, _⟩ | ⟨a, len, cap, m, n, D, Pl, hcs, _⟩
    · simp at hcs; exact ⟨_, _, _, hcs⟩
    · simp at hcs; exact ⟨_, _, _, hcs⟩
  obtain ⟨a, l, c, rfl⟩ := hs
  obtain ⟨xs, h1, h2⟩ := chs_in (d := x.1) (ps := x.2) ⟨a, l, c, rfl⟩ (Nat.le_trans (bulks.parts_bulk hxd) hb) ⟨n, hx⟩
  exact ⟨xs, _, hc 0 _ rfl, Nat.le_trans h1 len63, h2⟩

end Go.Proofs.YtflfaiakenahlaaGreatDoor
end

section
/-
  The variable errors.errorType, as the rows list it: what a walk reads there.
-/
namespace Go.Proofs.YtflfaiakenahlaaGreatDoor
open Go.Proofs.YtflfaiakenahlaaGreatDoor.V

theorem err_name : Tryz.prog.globalNamed "errors.errorType" = some 0 := by kernel_rfl
theorem err_rt : (Tryz.prog.cutTypes.find? (·.1 == "internal/reflectlite.rtype")).map (·.2) = some 167 := by kernel_rfl
theorem err_one : ((List.range 245).filter fun t => Tryz.prog.rowNamed t [101, 114, 114, 111, 114]) = [26] := by kernel_rfl
theorem err_size : Tryz.prog.types.size = 245 := by kernel_rfl

theorem err_in {W : World} (h : handlesMet Tryz.prog [("errors.errorType", Rows.laid_errors_errorType)] W) : ErrIn (oldL W) := by
  obtain ⟨name, u, ty, e1, e2, e3, e4, e5⟩ := h _ (List.mem_singleton.2 rfl)
  have en : name = [101, 114, 114, 111, 114] := (Option.some.inj e1).symm
  subst en
  obtain rfl := Option.some.inj (err_rt.symm.trans e2)
  have hm : ty ∈ (List.range 245).filter fun t => Tryz.prog.rowNamed t [101, 114, 114, 111, 114] := List.mem_filter.2 ⟨List.mem_range.2 (by rw [← err_size]; exact e3), e4⟩
  rw [err_one] at hm
  obtain rfl := List.mem_singleton.1 hm
  have hh : typeHandle Tryz.prog 26 = .pointer (some ⟨1, 26, none⟩) := by kernel_rfl
  rw [hh] at e5
  refine old_rd ?_
  simpa using World.var?_cell err_name e5 0

end Go.Proofs.YtflfaiakenahlaaGreatDoor
end

section
/-
  What every row's proof of this seat asks first; the variable errors.errorType, and a world that holds it.
-/
namespace Go.Proofs.YtflfaiakenahlaaGreatDoor
open Go.Proofs.YtflfaiakenahlaaGreatDoor.V
open Go.ChangeShapes Go.WideShapes Go.ChangeAt Go.RowKit

theorem own : ownKnob Tryz.prog.godebug = none := by kernel_rfl
theorem laidOut : laidOutB Tryz.prog = true := by kernel_rfl

/-- What a row of these asks of a walk: true, and of what was there nothing has turned. -/
theorem calls_old {f : FuncId} {args : Array Value} {W : World} (h : @Does Tryz.prog f args W fun r w' => r = .bool true ∧ @SL (streams W) w' (oldL W)) :
    Calls Tryz.prog f args W fun e W' => e = .returned (.bool true) ∧ Below W.heap.size W W' :=
  h.calls.mono fun e w' ⟨v, he, hv, hs⟩ => ⟨by rw [he, hv], old_below hs⟩

/-- A world for the witness. -/
noncomputable def errWorld (os : Os) : World :=
  { World.holding Tryz.prog os ⟨#[], #[], []⟩ with heap := (World.holding Tryz.prog os ⟨#[], #[], []⟩).heap.modify 0 fun
      | .cells _ t frozen => .cells #[.iface 167 (.agg #[.pointer (some ⟨1, 26, none⟩)])] t frozen
      | o => o }

theorem err_only {W : World} (h : laidMetH Tryz.prog [("errors.errorType", Rows.laid_errors_errorType)] W) : ErrIn (oldL W) := by
  have h' : laidMet Tryz.prog [] W ∧ handlesMet Tryz.prog [("errors.errorType", Rows.laid_errors_errorType)] W := h
  exact err_in h'.2

end Go.Proofs.YtflfaiakenahlaaGreatDoor
end
