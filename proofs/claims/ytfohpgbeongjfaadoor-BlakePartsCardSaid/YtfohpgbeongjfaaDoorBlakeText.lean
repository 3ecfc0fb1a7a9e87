/-
  A sum in digits: the program's 'Text' and the document's compute 'textOf'.
-/
import Derived.Test.YtfohpgbeongjfaaDoorBlakeMix
import Derived.Test.YtfohpgbeongjfaaDoorBlakeLaw
namespace Go.Proofs.YtfohpgbeongjfaaDoor.V

theorem Ev.dig {P : Program} {w : World} {e : Env} {ty t : TypeId} {x lo hi : Operand} {k : Nat} {k1 k2 : IntKind} (hx : e.val x = some (.string digs)) (hu : P.underlying t = some .string)
    (hlo : e.val lo = some (.int k1 (k : Nat))) (hhi : e.val hi = some (.int k2 ((k + 1 : Nat) : Int))) (h : k < 16) : Ev P w e (.slice t x (some lo) (some hi) none) ty (.string ⟨#[hexd k]⟩) := by
  have := Ev.slStr (P := P) (w := w) (e := e) (ty := ty) (t := t) (x := x) (lo := some lo) (hi := some hi) (l := k) (h := k + 1) hx hu ⟨_, hlo⟩ ⟨_, hhi⟩ (by omega) (by rw [digs_size]; omega)
  rwa [digs_cut h] at this

theorem shr4 (x : UInt8) : (x.toNat : Int).fdiv (2 ^ (min (4 : Int).toNat IntKind.u8.bits)) = ((x.toNat / 16 : Nat) : Int) := by
  have e : (2 ^ (min (4 : Int).toNat IntKind.u8.bits) : Int) = ((16 : Nat) : Int) := by decide +kernel
  rw [e, Int.fdiv_eq_ediv_of_nonneg _ (by omega), ← Int.natCast_ediv]

theorem and15 (x : UInt8) : IntKind.u8.wrap ((BitVec.ofInt IntKind.u8.bits (x.toNat : Int) &&& BitVec.ofInt IntKind.u8.bits 15).toNat) = ((x.toNat % 16 : Nat) : Int) := by
  have : ∀ n : Fin 256, IntKind.u8.wrap ((BitVec.ofInt IntKind.u8.bits (n.val : Int) &&& BitVec.ofInt IntKind.u8.bits 15).toNat) = ((n.val % 16 : Nat) : Int) := by decide +kernel
  exact this ⟨x.toNat, x.toNat_lt⟩

end Go.Proofs.YtfohpgbeongjfaaDoor.V
namespace Go.Proofs.YtfohpgbeongjfaaDoor
open Go.Proofs.YtfohpgbeongjfaaDoor.V

theorem rtext_spec [Strm] (bs : List UInt8) (hl : bs.length = 32) (w : World) (F : List (Nat × Obj)) (H : SL w F) :
    Does Tryd.prog 11 #[.agg (bs.map BV).toArray] w fun v w' => v = .string ⟨(textOf bs).toArray⟩ ∧ SL w' F := by
  refine Does.intro (args := [_]) (e := [(0, _)]) Tryd.func11 rfl Tryd.ntmps11 rfl rfl ?_
  repeat (first | refine RunsE.seq ?_ | refine RunsE.skip ?_ | refine RunsE.block ?_ | refine RunsE.inBlock ?_ | refine RunsE.yes rfl ?_ | refine RunsE.no rfl ?_ | refine RunsE.exit rfl ?_)
  repeat (first | refine RunsE.seq ?_ | refine RunsE.skip ?_ | refine RunsE.block ?_ | refine RunsE.inBlock ?_ | refine RunsE.yes rfl ?_ | refine RunsE.no rfl ?_ | refine RunsE.exit rfl ?_)
  refine RunsE.region ?_
  refine OpsE.ex (Ex.box H rfl) rfl ?_; (try clear H); rintro _ w ⟨b1, rfl, H⟩; simp only [Value.cells] at H
  refine OpsE.ev (Ev.assign rfl) rfl ?_
  refine OpsE.nil ?_
  repeat (first | refine RunsE.seq ?_ | refine RunsE.skip ?_ | refine RunsE.block ?_ | refine RunsE.inBlock ?_ | refine RunsE.yes rfl ?_ | refine RunsE.no rfl ?_ | refine RunsE.exit rfl ?_)
  refine RunsE.region ?_
  refine OpsE.ev (Ev.assign rfl) rfl ?_
  refine OpsE.nil ?_
  repeat (first | refine RunsE.seq ?_ | refine RunsE.skip ?_ | refine RunsE.block ?_ | refine RunsE.inBlock ?_ | refine RunsE.yes rfl ?_ | refine RunsE.no rfl ?_ | refine RunsE.exit rfl ?_)
  refine RunsE.region ?_
  refine OpsE.ev (Ev.assign rfl) rfl ?_
  refine OpsE.nil ?_
  repeat (first | refine RunsE.seq ?_ | refine RunsE.skip ?_ | refine RunsE.block ?_ | refine RunsE.inBlock ?_ | refine RunsE.yes rfl ?_ | refine RunsE.no rfl ?_ | refine RunsE.exit rfl ?_)
  refine RunsE.loop (fun i : Nat => [(1, .pointer (some ⟨b1, 0, none⟩)), (3, .string ⟨(textOf (bs.take i)).toArray⟩), (4, .int .i64 (i : Int))])
    (fun i w => i ≤ 32 ∧ SL w ((b1, .cells (bs.map BV).toArray 25 (0, 0)) :: F))
    (fun i => 32 - i) 0 ⟨rfl, rfl, rfl, trivial⟩ ⟨by omega, H⟩ ?_
  clear H
  rintro i w ⟨hi, H⟩ next
  by_cases h : i < 32
  · have hc := blt (bs.getD i 0)
    have hz : (⟨(textOf (bs.take i)).toArray⟩ : ByteArray).size = 2 * i := by
      show (textOf (bs.take i)).toArray.size = _
      rw [List.size_toArray, textOf_length, List.length_take, hl, Nat.min_eq_left (by omega)]
    have e1 : (⟨(textOf (bs.take i)).toArray⟩ : ByteArray) ++ ⟨#[hexd ((bs.getD i 0).toNat / 16)]⟩ ++ ⟨#[hexd ((bs.getD i 0).toNat % 16)]⟩ = ⟨(textOf (bs.take (i + 1))).toArray⟩ := by
      rw [str_two, textOf_succ (by omega)]
    have hz1 : ((⟨(textOf (bs.take i)).toArray⟩ : ByteArray) ++ ⟨#[hexd ((bs.getD i 0).toNat / 16)]⟩).size = 2 * i + 1 := by
      rw [ByteArray.size_append, hz]; rfl
    repeat (first | refine RunsE.seq ?_ | refine RunsE.skip ?_ | refine RunsE.block ?_ | refine RunsE.inBlock ?_ | refine RunsE.yes rfl ?_ | refine RunsE.no rfl ?_ | refine RunsE.exit rfl ?_)
    refine RunsE.region ?_
    refine OpsE.ev (Ev.move rfl) rfl ?_
    refine OpsE.ev (Ev.lss rfl rfl) rfl ?_
    refine OpsE.nil ?_
    repeat (first | refine RunsE.seq ?_ | refine RunsE.skip ?_ | refine RunsE.block ?_ | refine RunsE.inBlock ?_ | refine RunsE.yes rfl ?_ | refine RunsE.no rfl ?_ | refine RunsE.exit rfl ?_)
    refine RunsE.drawS H [23] (by kernel_rfl) ?_; (try clear H); intro w H
    refine OpsD.take 0 rfl (by kernel_rfl) H (fun w H => Ev.move rfl) rfl ?_
    refine OpsD.take 1 rfl (by kernel_rfl) H (fun w H => Ev.move rfl) rfl ?_
    refine OpsD.take 2 rfl (by kernel_rfl) H (fun w H => Ev.iaArr (n := 32) (sz := 1) rfl rfl rfl (by kernel_rfl) (by omega)) rfl ?_
    refine OpsD.take 3 rfl (by kernel_rfl) H (fun w H => Ev.load H rfl (by kernel_rfl) (rdB m0 (by omega))) rfl ?_
    refine OpsD.take 4 rfl (by kernel_rfl) H (fun w H => Ev.quo rfl rfl (by omega) (c := (((bs.getD i 0).toNat / 16 : Nat) : Int)) (by rw [show ((bs.getD i 0).toNat : Int).tdiv 16 = (((bs.getD i 0).toNat / 16 : Nat) : Int) from qquo _ 16]; exact qu8 (by omega) (by omega))) rfl ?_
    refine OpsD.take 5 rfl (by kernel_rfl) H (fun w H => Ev.move rfl) rfl ?_
    refine OpsD.take 6 rfl (by kernel_rfl) H (fun w H => Ev.iaArr (n := 32) (sz := 1) rfl rfl rfl (by kernel_rfl) (by omega)) rfl ?_
    refine OpsD.take 7 rfl (by kernel_rfl) H (fun w H => Ev.load H rfl (by kernel_rfl) (rdB m0 (by omega))) rfl ?_
    refine OpsD.take 8 rfl (by kernel_rfl) H (fun w H => Ev.quo rfl rfl (by omega) (c := (((bs.getD i 0).toNat / 16 : Nat) : Int)) (by rw [show ((bs.getD i 0).toNat : Int).tdiv 16 = (((bs.getD i 0).toNat / 16 : Nat) : Int) from qquo _ 16]; exact qu8 (by omega) (by omega))) rfl ?_
    refine OpsD.take 9 rfl (by kernel_rfl) H (fun w H => Ev.add rfl rfl (c := (((bs.getD i 0).toNat / 16 + 1 : Nat) : Int)) (qu8 (by omega) (by omega))) rfl ?_
    refine OpsD.take 10 rfl (by kernel_rfl) H (fun w H => Ev.dig (k := (bs.getD i 0).toNat / 16) rfl (by kernel_rfl) rfl rfl (by omega)) rfl ?_
    refine OpsD.take 11 rfl (by kernel_rfl) H (fun w H => Ev.strAdd rfl rfl (by rw [hz]; show 2 * i + 1 ≤ _; omega)) rfl ?_
    refine OpsD.take 12 rfl (by kernel_rfl) H (fun w H => Ev.move rfl) rfl ?_
    refine OpsD.take 13 rfl (by kernel_rfl) H (fun w H => Ev.iaArr (n := 32) (sz := 1) rfl rfl rfl (by kernel_rfl) (by omega)) rfl ?_
    refine OpsD.take 14 rfl (by kernel_rfl) H (fun w H => Ev.load H rfl (by kernel_rfl) (rdB m0 (by omega))) rfl ?_
    refine OpsD.take 15 rfl (by kernel_rfl) H (fun w H => Ev.rem rfl rfl (by omega) (qrem (bs.getD i 0).toNat 16)) rfl ?_
    refine OpsD.take 16 rfl (by kernel_rfl) H (fun w H => Ev.move rfl) rfl ?_
    refine OpsD.take 17 rfl (by kernel_rfl) H (fun w H => Ev.iaArr (n := 32) (sz := 1) rfl rfl rfl (by kernel_rfl) (by omega)) rfl ?_
    refine OpsD.take 18 rfl (by kernel_rfl) H (fun w H => Ev.load H rfl (by kernel_rfl) (rdB m0 (by omega))) rfl ?_
    refine OpsD.take 19 rfl (by kernel_rfl) H (fun w H => Ev.rem rfl rfl (by omega) (qrem (bs.getD i 0).toNat 16)) rfl ?_
    refine OpsD.take 20 rfl (by kernel_rfl) H (fun w H => Ev.add rfl rfl (c := (((bs.getD i 0).toNat % 16 + 1 : Nat) : Int)) (qu8 (by omega) (by omega))) rfl ?_
    refine OpsD.take 21 rfl (by kernel_rfl) H (fun w H => Ev.dig (k := (bs.getD i 0).toNat % 16) rfl (by kernel_rfl) rfl rfl (by omega)) rfl ?_
    refine OpsD.take 22 rfl (by kernel_rfl) H (fun w H => Ev.strAdd rfl rfl (by rw [hz1]; show 2 * i + 1 + 1 ≤ _; omega)) rfl ?_
    refine OpsD.one 23 (by kernel_rfl) (StepD.exT rfl rfl (Ev.ex (Ev.assign rfl)) rfl ?_); rintro _ _ ⟨rfl, rfl⟩
    refine OpsD.done (by kernel_rfl) ?_
    repeat (first | refine RunsE.seq ?_ | refine RunsE.skip ?_ | refine RunsE.block ?_ | refine RunsE.inBlock ?_ | refine RunsE.yes rfl ?_ | refine RunsE.no rfl ?_ | refine RunsE.exit rfl ?_)
    refine RunsE.region ?_
    refine OpsE.ev (Ev.move rfl) rfl ?_
    refine OpsE.ev (Ev.add rfl rfl) rfl ?_
    refine OpsE.ev (Ev.assign rfl) rfl ?_
    refine OpsE.nil ?_
    repeat (first | refine RunsE.seq ?_ | refine RunsE.skip ?_ | refine RunsE.block ?_ | refine RunsE.inBlock ?_ | refine RunsE.yes rfl ?_ | refine RunsE.no rfl ?_ | refine RunsE.exit rfl ?_)
    exact next (i + 1) _ _ (by omega) ⟨by omega, H⟩ ⟨rfl, congrArg (fun x => some (Value.string x)) e1, rfl, trivial⟩
  clear next
  obtain rfl : i = 32 := by omega
  rw [show bs.take 32 = bs by rw [← hl, List.take_length]]
  repeat (first | refine RunsE.seq ?_ | refine RunsE.skip ?_ | refine RunsE.block ?_ | refine RunsE.inBlock ?_ | refine RunsE.yes rfl ?_ | refine RunsE.no rfl ?_ | refine RunsE.exit rfl ?_)
  refine RunsE.region ?_
  refine OpsE.ev (Ev.move rfl) rfl ?_
  refine OpsE.ev (Ev.lss rfl rfl) rfl ?_
  refine OpsE.nil ?_
  repeat (first | refine RunsE.seq ?_ | refine RunsE.skip ?_ | refine RunsE.block ?_ | refine RunsE.inBlock ?_ | refine RunsE.yes rfl ?_ | refine RunsE.no rfl ?_ | refine RunsE.exit rfl ?_)
  refine RunsE.region ?_
  refine OpsE.ev (Ev.move rfl) rfl ?_
  refine OpsE.ev (Ev.assign rfl) rfl ?_
  refine OpsE.nil ?_
  repeat (first | refine RunsE.seq ?_ | refine RunsE.skip ?_ | refine RunsE.block ?_ | refine RunsE.inBlock ?_ | refine RunsE.yes rfl ?_ | refine RunsE.no rfl ?_ | refine RunsE.exit rfl ?_)
  exact RunsE.ret1 Tryd.func11 rfl rfl ⟨rfl, H.drop⟩

theorem text_spec [Strm] (bs : List UInt8) (hl : bs.length = 32) (w : World) (F : List (Nat × Obj)) (H : SL w F) :
    Does Tryd.prog 10 #[.agg (bs.map BV).toArray] w fun v w' => v = .string ⟨(textOf bs).toArray⟩ ∧ SL w' F := by
  refine Does.intro (args := [_]) (e := [(0, _)]) Tryd.func10 rfl Tryd.ntmps10 rfl rfl ?_
  repeat (first | refine RunsE.seq ?_ | refine RunsE.skip ?_ | refine RunsE.block ?_ | refine RunsE.inBlock ?_ | refine RunsE.yes rfl ?_ | refine RunsE.no rfl ?_ | refine RunsE.exit rfl ?_)
  repeat (first | refine RunsE.seq ?_ | refine RunsE.skip ?_ | refine RunsE.block ?_ | refine RunsE.inBlock ?_ | refine RunsE.yes rfl ?_ | refine RunsE.no rfl ?_ | refine RunsE.exit rfl ?_)
  refine RunsE.region ?_
  refine OpsE.ex (Ex.box H rfl) rfl ?_; (try clear H); rintro _ w ⟨b1, rfl, H⟩; simp only [Value.cells] at H
  refine OpsE.ev (Ev.assign rfl) rfl ?_
  refine OpsE.nil ?_
  repeat (first | refine RunsE.seq ?_ | refine RunsE.skip ?_ | refine RunsE.block ?_ | refine RunsE.inBlock ?_ | refine RunsE.yes rfl ?_ | refine RunsE.no rfl ?_ | refine RunsE.exit rfl ?_)
  refine RunsE.region ?_
  refine OpsE.ev (Ev.assign rfl) rfl ?_
  refine OpsE.nil ?_
  repeat (first | refine RunsE.seq ?_ | refine RunsE.skip ?_ | refine RunsE.block ?_ | refine RunsE.inBlock ?_ | refine RunsE.yes rfl ?_ | refine RunsE.no rfl ?_ | refine RunsE.exit rfl ?_)
  refine RunsE.region ?_
  refine OpsE.ev (Ev.loadBlk (n := 32) H rfl (by kernel_rfl) (by simp [hl]) m0) rfl ?_
  refine OpsE.ev (Ev.move rfl) rfl ?_
  refine OpsE.nil ?_
  replace H := H.drop
  refine RunsE.weaken (e' := [(3, _), (6, _), (7, _)]) ⟨rfl, rfl, rfl, trivial⟩ ?_
  repeat (first | refine RunsE.seq ?_ | refine RunsE.skip ?_ | refine RunsE.block ?_ | refine RunsE.inBlock ?_ | refine RunsE.yes rfl ?_ | refine RunsE.no rfl ?_ | refine RunsE.exit rfl ?_)
  refine RunsE.loop (fun s : Nat × Value => [(3, s.2), (6, .agg (bs.map BV).toArray), (7, .int .i64 (s.1 : Int))])
    (fun s w => s.1 ≤ 32 ∧ ∃ B, Slc gB 1 5 s.2 (textOf (bs.take s.1)) B ∧ SL w (B ++ F))
    (fun s => 32 - s.1) (0, .slice none 0 0) ⟨rfl, rfl, rfl, trivial⟩ ⟨by omega, [], .nil, H⟩ ?_
  clear H
  rintro ⟨i, v⟩ w ⟨hi, B, hs, H⟩ next
  simp only at hi hs H ⊢
  by_cases h : i < 32
  · have hc := blt (bs.getD i 0)
    have hz : (textOf (bs.take i)).length = 2 * i := by rw [textOf_length, List.length_take, hl, Nat.min_eq_left (by omega)]
    repeat (first | refine RunsE.seq ?_ | refine RunsE.skip ?_ | refine RunsE.block ?_ | refine RunsE.inBlock ?_ | refine RunsE.yes rfl ?_ | refine RunsE.no rfl ?_ | refine RunsE.exit rfl ?_)
    refine RunsE.region ?_
    refine OpsE.ev (Ev.lss rfl rfl) rfl ?_
    refine OpsE.nil ?_
    repeat (first | refine RunsE.seq ?_ | refine RunsE.skip ?_ | refine RunsE.block ?_ | refine RunsE.inBlock ?_ | refine RunsE.yes rfl ?_ | refine RunsE.no rfl ?_ | refine RunsE.exit rfl ?_)
    refine RunsE.region ?_
    refine OpsE.ev (Ev.ixArr (n := 32) (sz := 5) (m := i) (v := BV (bs.getD i 0)) rfl rfl rfl (by kernel_rfl) (by kernel_rfl) (by kernel_rfl) (by omega) (by simp [hl, h])) rfl ?_
    refine OpsE.ev (Ev.assign rfl) rfl ?_
    refine OpsE.nil ?_
    repeat (first | refine RunsE.seq ?_ | refine RunsE.skip ?_ | refine RunsE.block ?_ | refine RunsE.inBlock ?_ | refine RunsE.yes rfl ?_ | refine RunsE.no rfl ?_ | refine RunsE.exit rfl ?_)
    refine RunsE.drawS H [8, 9] (by kernel_rfl) ?_; (try clear H); intro w H
    refine OpsD.take 0 rfl (by kernel_rfl) H (fun w H => Ev.move rfl) rfl ?_
    refine OpsD.take 1 rfl (by kernel_rfl) H (fun w H => Ev.move rfl) rfl ?_
    refine OpsD.take 2 rfl (by kernel_rfl) H (fun w H => Ev.shr rfl rfl (by omega) (shr4 _)) rfl ?_
    refine OpsD.take 3 rfl (by kernel_rfl) H (fun w H => Ev.ixStr (c := hexd ((bs.getD i 0).toNat / 16)) (m := (bs.getD i 0).toNat / 16) rfl rfl rfl (by kernel_rfl) (digs_get (by omega))) rfl ?_
    refine OpsD.take 4 rfl (by kernel_rfl) H (fun w H => Ev.move rfl) rfl ?_
    refine OpsD.take 5 rfl (by kernel_rfl) H (fun w H => Ev.and rfl rfl (and15 _)) rfl ?_
    refine OpsD.take 6 rfl (by kernel_rfl) H (fun w H => Ev.ixStr (c := hexd ((bs.getD i 0).toNat % 16)) (m := (bs.getD i 0).toNat % 16) rfl rfl rfl (by kernel_rfl) (digs_get (by omega))) rfl ?_
    refine OpsD.one 7 (by kernel_rfl) (StepD.ex rfl (Ex.buildSl (T := 5) (zv := .int .u8 0) H rfl (by kernel_rfl) (by kernel_rfl) (by simp [Value.oneCell']) rfl (by omega) (by omega)) rfl ?_); (try clear H); rintro _ w ⟨b17, rfl, H⟩; refine ⟨(by first | exact H | exact H.drop | exact H.drop.drop | exact H.dropL), ?_⟩
    refine OpsD.one 8 (by kernel_rfl) (StepD.exT rfl rfl (Ex.append (g := gB) (by_ := 1) (zv := .int .u8 0) (ys := [hexd ((bs.getD i 0).toNat / 16), hexd ((bs.getD i 0).toNat % 16)]) H.mid rfl rfl hs (Src.row0 H m0 rfl) (fun _ => rfl) (by simp [Value.oneCell']) (by kernel_rfl) (by kernel_rfl) (by kernel_rfl) (by kernel_rfl) rfl (by simp [hz]; omega) (by simp [hz]; omega)) rfl ?_); (try clear H); rintro v' w ⟨B', hs, H⟩
    refine OpsD.one 9 (by kernel_rfl) (StepD.exT rfl rfl (Ev.ex (Ev.assign rfl)) rfl ?_); rintro _ _ ⟨rfl, rfl⟩
    refine OpsD.done (by kernel_rfl) ?_
    rw [← textOf_succ (by omega)] at hs
    repeat (first | refine RunsE.seq ?_ | refine RunsE.skip ?_ | refine RunsE.block ?_ | refine RunsE.inBlock ?_ | refine RunsE.yes rfl ?_ | refine RunsE.no rfl ?_ | refine RunsE.exit rfl ?_)
    refine RunsE.region ?_
    refine OpsE.ev (Ev.add rfl rfl) rfl ?_
    refine OpsE.ev (Ev.move rfl) rfl ?_
    refine OpsE.nil ?_
    repeat (first | refine RunsE.seq ?_ | refine RunsE.skip ?_ | refine RunsE.block ?_ | refine RunsE.inBlock ?_ | refine RunsE.yes rfl ?_ | refine RunsE.no rfl ?_ | refine RunsE.exit rfl ?_)
    exact next (i + 1, v') _ _ (by simp only; omega) ⟨by simp only; omega, B', hs, H.dropMid⟩ ⟨rfl, rfl, rfl, trivial⟩
  clear next
  obtain rfl : i = 32 := by omega
  rw [show bs.take 32 = bs by rw [← hl, List.take_length]] at hs
  obtain ⟨g, c, sp, fr, rfl, rfl, h1, h2, h3⟩ := hs.shape (by rw [textOf_length, hl]; omega)
  rw [gB_map] at H
  repeat (first | refine RunsE.seq ?_ | refine RunsE.skip ?_ | refine RunsE.block ?_ | refine RunsE.inBlock ?_ | refine RunsE.yes rfl ?_ | refine RunsE.no rfl ?_ | refine RunsE.exit rfl ?_)
  refine RunsE.region ?_
  refine OpsE.ev (Ev.lss rfl rfl) rfl ?_
  refine OpsE.nil ?_
  repeat (first | refine RunsE.seq ?_ | refine RunsE.skip ?_ | refine RunsE.block ?_ | refine RunsE.inBlock ?_ | refine RunsE.yes rfl ?_ | refine RunsE.no rfl ?_ | refine RunsE.exit rfl ?_)
  refine RunsE.region ?_
  refine OpsE.ev (Ev.move rfl) rfl ?_
  refine OpsE.ev (Ev.bytesStr (el := 5) (bs := textOf bs) H rfl (by kernel_rfl) (by kernel_rfl) (by kernel_rfl) rfl (rdRow (xs := (textOf bs).map BV) m0)) rfl ?_
  refine OpsE.ev (Ev.assign rfl) rfl ?_
  refine OpsE.nil ?_
  repeat (first | refine RunsE.seq ?_ | refine RunsE.skip ?_ | refine RunsE.block ?_ | refine RunsE.inBlock ?_ | refine RunsE.yes rfl ?_ | refine RunsE.no rfl ?_ | refine RunsE.exit rfl ?_)
  exact RunsE.ret1 Tryd.func10 rfl rfl ⟨rfl, H.dropL⟩

end Go.Proofs.YtfohpgbeongjfaaDoor
