/-
  The statements' functions: 'sure', 'BlakeTexts', 'BlakeSums'.
-/
import Derived.Test.YtfohpgbeongjfaaDoorBlakeRefSum
import Derived.Test.YtfohpgbeongjfaaDoorBlakeText
namespace Go.Proofs.YtfohpgbeongjfaaDoor.V

section
variable {P : Program} {w : World} {e : Env} {ty t : TypeId} {x y : Operand}

theorem Ev.strEqT {s s' : ByteArray} {t' : TypeId} (hx : e.val x = some (.string s)) (hy : e.val y = some (.string s')) (h : s = s') : Ev P w e (.binOp .eql t x y t') ty (.bool true) := by
  have := Ev.strEq (P := P) (w := w) (ty := ty) (t := t) (t' := t') hx hy
  rw [h, beq_self_eq_true] at this
  exact this

theorem Ev.bytesEqT {n : Nat} {xs : List UInt8} {t' : TypeId} (hx : e.val x = some (.agg (xs.map BV).toArray)) (hy : e.val y = some (.agg (xs.map BV).toArray)) (ht : bytesArr P t = some n) (h1 : xs.length = n) :
    Ev P w e (.binOp .eql t x y t') ty (.bool true) := by
  have := Ev.bytesEq (P := P) (w := w) (ty := ty) (t := t) (t' := t') hx hy ht h1 h1
  rw [beq_self_eq_true] at this
  exact this
end

end Go.Proofs.YtfohpgbeongjfaaDoor.V
namespace Go.Proofs.YtfohpgbeongjfaaDoor
open Go.Proofs.YtfohpgbeongjfaaDoor.V

theorem sure_spec [Strm] (w : World) (F : List (Nat × Obj)) (hG : OrderIn F) (H : SL w F) : Does Tryd.prog 7 #[] w fun r w' => r = .bool true ∧ SL w' F := by
  refine Does.intro (args := []) (e := []) Tryd.func7 rfl Tryd.ntmps7 rfl rfl ?_
  repeat (first | refine RunsE.seq ?_ | refine RunsE.skip ?_ | refine RunsE.block ?_ | refine RunsE.inBlock ?_ | refine RunsE.yes rfl ?_ | refine RunsE.no rfl ?_ | refine RunsE.exit rfl ?_)
  repeat (first | refine RunsE.seq ?_ | refine RunsE.skip ?_ | refine RunsE.block ?_ | refine RunsE.inBlock ?_ | refine RunsE.yes rfl ?_ | refine RunsE.no rfl ?_ | refine RunsE.exit rfl ?_)
  refine RunsE.region ?_
  refine OpsE.ev (Ev.assign rfl) rfl ?_
  refine OpsE.nil ?_
  repeat (first | refine RunsE.seq ?_ | refine RunsE.skip ?_ | refine RunsE.block ?_ | refine RunsE.inBlock ?_ | refine RunsE.yes rfl ?_ | refine RunsE.no rfl ?_ | refine RunsE.exit rfl ?_)
  refine RunsE.region ?_
  refine OpsE.ex (Ex.buildSl (T := 5) (zv := .int .u8 0) H rfl (by kernel_rfl) (by kernel_rfl) (by simp [Value.oneCell']) rfl (by omega) (by omega)) rfl ?_; (try clear H); rintro _ w ⟨b1, rfl, H⟩
  refine OpsE.ex (Ex.mark (el := 5) (T := 5) H rfl (by kernel_rfl) (by kernel_rfl) u0) rfl ?_; (try clear H); rintro _ w ⟨rfl, H⟩
  refine OpsE.ex (Ex.call rfl Tryd.call8 (sum_spec [97, 98, 99] _ (by simp) w _ (by refine Inp.blk _ 0 _ [97, 98, 99] (Nat.le_refl _) fun i hi => Rd.mk m0 ?_; match i, hi with | 0, _ => rfl | 1, _ => rfl | 2, _ => rfl) hG.tail H)) rfl ?_; (try clear H); rintro _ w ⟨rfl, H⟩
  refine OpsE.ex (Ex.call rfl Tryd.call10 (text_spec (sumOf [] [97, 98, 99]) (sumOf_length _ _) w _ H)) rfl ?_; (try clear H); rintro _ w ⟨rfl, H⟩
  refine OpsE.ev (Ev.strEqT rfl rfl (by rw [sure_A]; rfl)) rfl ?_
  refine OpsE.ev (Ev.move rfl) rfl ?_
  first | (refine OpsE.yes rfl rfl ?_; refine OpsE.ex (Ex.call rfl Tryd.call8 (sum_spec [] _ (by simp) w _ .nil hG.tail H)) rfl ?_; (try clear H); rintro _ w ⟨rfl, H⟩) | refine OpsE.no rfl rfl rfl ?_ | refine OpsE.off rfl rfl rfl ?_
  first | (refine OpsE.yes rfl rfl ?_; refine OpsE.ex (Ex.call rfl Tryd.call10 (text_spec (sumOf [] []) (sumOf_length _ _) w _ H)) rfl ?_; (try clear H); rintro _ w ⟨rfl, H⟩) | refine OpsE.no rfl rfl rfl ?_ | refine OpsE.off rfl rfl rfl ?_
  first | (refine OpsE.yes rfl rfl ?_; refine OpsE.ev (Ev.strEqT rfl rfl (by rw [sure_N]; rfl)) rfl ?_) | refine OpsE.no rfl rfl rfl ?_ | refine OpsE.off rfl rfl rfl ?_
  refine OpsE.ev ((by first | exact Ev.pickT rfl rfl | exact Ev.pickF rfl rfl)) rfl ?_
  refine OpsE.ev (Ev.assign rfl) rfl ?_
  refine OpsE.nil ?_
  repeat (first | refine RunsE.seq ?_ | refine RunsE.skip ?_ | refine RunsE.block ?_ | refine RunsE.inBlock ?_ | refine RunsE.yes rfl ?_ | refine RunsE.no rfl ?_ | refine RunsE.exit rfl ?_)
  exact RunsE.ret1 Tryd.func7 rfl rfl ⟨rfl, H.drop⟩

theorem texts_spec [Strm] (h : List UInt8) (hl : h.length = 32) (w : World) (F : List (Nat × Obj)) (hG : OrderIn F) (H : SL w F) :
    Does Tryd.prog 4 #[.agg (h.map BV).toArray] w fun r w' => r = .bool true ∧ SL w' F := by
  refine Does.intro (args := [_]) (e := [(0, _)]) Tryd.func4 rfl Tryd.ntmps4 rfl rfl ?_
  repeat (first | refine RunsE.seq ?_ | refine RunsE.skip ?_ | refine RunsE.block ?_ | refine RunsE.inBlock ?_ | refine RunsE.yes rfl ?_ | refine RunsE.no rfl ?_ | refine RunsE.exit rfl ?_)
  repeat (first | refine RunsE.seq ?_ | refine RunsE.skip ?_ | refine RunsE.block ?_ | refine RunsE.inBlock ?_ | refine RunsE.yes rfl ?_ | refine RunsE.no rfl ?_ | refine RunsE.exit rfl ?_)
  refine RunsE.region ?_
  refine OpsE.ex (Ex.box H rfl) rfl ?_; (try clear H); rintro _ w ⟨b1, rfl, H⟩; simp only [Value.cells] at H
  refine OpsE.ev (Ev.assign rfl) rfl ?_
  refine OpsE.nil ?_
  repeat (first | refine RunsE.seq ?_ | refine RunsE.skip ?_ | refine RunsE.block ?_ | refine RunsE.inBlock ?_ | refine RunsE.yes rfl ?_ | refine RunsE.no rfl ?_ | refine RunsE.exit rfl ?_)
  refine RunsE.drawS H [8] (by kernel_rfl) ?_; (try clear H); intro w H
  refine OpsD.take 0 rfl (by kernel_rfl) H (fun w H => Ev.loadBlk (n := 32) (vs := h.map BV) H rfl (by kernel_rfl) (by simp [hl]) m0) rfl ?_
  refine OpsD.take 2 rfl (by kernel_rfl) H (fun w H => Ev.loadBlk (n := 32) (vs := h.map BV) H rfl (by kernel_rfl) (by simp [hl]) m0) rfl ?_
  refine OpsD.one 1 (by kernel_rfl) (StepD.ex rfl (Ex.call rfl Tryd.call10 (text_spec h hl w _ H)) rfl ?_); (try clear H); rintro _ w ⟨rfl, H⟩; refine ⟨(by first | exact H | exact H.drop | exact H.drop.drop | exact H.dropL), ?_⟩
  refine OpsD.one 3 (by kernel_rfl) (StepD.ex rfl (Ex.call rfl Tryd.call11 (rtext_spec h hl w _ H)) rfl ?_); (try clear H); rintro _ w ⟨rfl, H⟩; refine ⟨(by first | exact H | exact H.drop | exact H.drop.drop | exact H.dropL), ?_⟩
  refine OpsD.take 4 rfl (by kernel_rfl) H (fun w H => Ev.strEqT rfl rfl rfl) rfl ?_
  refine OpsD.take 5 rfl (by kernel_rfl) H (fun w H => Ev.move rfl) rfl ?_
  first | (refine OpsD.one 6 (by kernel_rfl) (StepD.exYes rfl rfl rfl (Ex.call rfl Tryd.call7 (sure_spec w _ hG.tail H)) rfl ?_); (try clear H); rintro _ w ⟨rfl, H⟩; refine ⟨(by first | exact H | exact H.drop | exact H.drop.drop | exact H.dropL), ?_⟩) | refine OpsD.takeNo 6 rfl (by kernel_rfl) rfl rfl H rfl ?_ | refine OpsD.takeOff 6 rfl (by kernel_rfl) rfl rfl H rfl ?_
  refine OpsD.take 7 rfl (by kernel_rfl) H (fun w H => (by first | exact Ev.pickT rfl rfl | exact Ev.pickF rfl rfl)) rfl ?_
  refine OpsD.one 8 (by kernel_rfl) (StepD.exT rfl rfl (Ev.ex (Ev.assign rfl)) rfl ?_); rintro _ _ ⟨rfl, rfl⟩
  refine OpsD.done (by kernel_rfl) ?_
  repeat (first | refine RunsE.seq ?_ | refine RunsE.skip ?_ | refine RunsE.block ?_ | refine RunsE.inBlock ?_ | refine RunsE.yes rfl ?_ | refine RunsE.no rfl ?_ | refine RunsE.exit rfl ?_)
  exact RunsE.ret1 Tryd.func4 rfl rfl ⟨rfl, H.drop⟩

theorem sums_spec [Strm] (bs : List UInt8) (v : Value) (h63 : bs.length ≤ 9223372036854775807) (w : World) (F : List (Nat × Obj)) (hv : Inp F v bs) (hG : OrderIn F) (H : SL w F) :
    Does Tryd.prog 3 #[v] w fun r w' => r = .bool true ∧ SL w' F := by
  obtain ⟨a, c, rfl, hc⟩ := hv.len
  refine Does.intro (args := [_]) (e := [(0, _)]) Tryd.func3 rfl Tryd.ntmps3 rfl rfl ?_
  repeat (first | refine RunsE.seq ?_ | refine RunsE.skip ?_ | refine RunsE.block ?_ | refine RunsE.inBlock ?_ | refine RunsE.yes rfl ?_ | refine RunsE.no rfl ?_ | refine RunsE.exit rfl ?_)
  repeat (first | refine RunsE.seq ?_ | refine RunsE.skip ?_ | refine RunsE.block ?_ | refine RunsE.inBlock ?_ | refine RunsE.yes rfl ?_ | refine RunsE.no rfl ?_ | refine RunsE.exit rfl ?_)
  refine RunsE.region ?_
  refine OpsE.ev (Ev.assign rfl) rfl ?_
  refine OpsE.nil ?_
  repeat (first | refine RunsE.seq ?_ | refine RunsE.skip ?_ | refine RunsE.block ?_ | refine RunsE.inBlock ?_ | refine RunsE.yes rfl ?_ | refine RunsE.no rfl ?_ | refine RunsE.exit rfl ?_)
  refine RunsE.region ?_
  refine OpsE.ev (Ev.move rfl) rfl ?_
  refine OpsE.ev (Ev.lenSl (d := 5) rfl rfl (by kernel_rfl)) rfl ?_
  refine OpsE.ev (Ev.gtr (r := decide (4000 < bs.length)) rfl rfl (by apply decide_eq_decide.2; omega)) rfl ?_
  refine OpsE.nil ?_
  repeat (first | refine RunsE.seq ?_ | refine RunsE.skip ?_ | refine RunsE.block ?_ | refine RunsE.inBlock ?_ | refine RunsE.yes rfl ?_ | refine RunsE.no rfl ?_ | refine RunsE.exit rfl ?_)
  by_cases hb : 4000 < bs.length
  · refine RunsE.yes (by rw [decide_eq_true hb]; rfl) ?_
    repeat (first | refine RunsE.seq ?_ | refine RunsE.skip ?_ | refine RunsE.block ?_ | refine RunsE.inBlock ?_ | refine RunsE.yes rfl ?_ | refine RunsE.no rfl ?_ | refine RunsE.exit rfl ?_)
    refine RunsE.region ?_
    refine OpsE.ex (Ex.call rfl Tryd.call7 (sure_spec w _ hG H)) rfl ?_; (try clear H); rintro _ w ⟨rfl, H⟩
    refine OpsE.ev (Ev.assign rfl) rfl ?_
    refine OpsE.nil ?_
    repeat (first | refine RunsE.seq ?_ | refine RunsE.skip ?_ | refine RunsE.block ?_ | refine RunsE.inBlock ?_ | refine RunsE.yes rfl ?_ | refine RunsE.no rfl ?_ | refine RunsE.exit rfl ?_)
    exact RunsE.ret1 Tryd.func3 rfl rfl ⟨rfl, H⟩
  · refine RunsE.no (by rw [decide_eq_false hb]; rfl) ?_
    refine RunsE.skip ?_
    repeat (first | refine RunsE.seq ?_ | refine RunsE.skip ?_ | refine RunsE.block ?_ | refine RunsE.inBlock ?_ | refine RunsE.yes rfl ?_ | refine RunsE.no rfl ?_ | refine RunsE.exit rfl ?_)
    refine RunsE.region ?_
    refine OpsE.ev (Ev.move rfl) rfl ?_
    refine OpsE.ex (Ex.call rfl Tryd.call8 (sum_spec bs _ (by omega) w _ hv hG H)) rfl ?_; (try clear H); rintro _ w ⟨rfl, H⟩
    refine OpsE.ex (Ex.alloc (zv := .agg (List.replicate 32 (.int .u8 0)).toArray) H (by kernel_rfl)) rfl ?_; (try clear H); rintro _ w ⟨b3, rfl, H⟩; simp only [Value.cells] at H
    refine OpsE.exn (Ex.storeBlk (n := 32) (vs := (sumOf [] bs).map BV) H rfl rfl (by kernel_rfl) (by simp) bvOne u0 (by simp) (Thaw.zero _ _)) ?_; (try clear H); intro _ w H
    refine OpsE.nil ?_
    repeat (first | refine RunsE.seq ?_ | refine RunsE.skip ?_ | refine RunsE.block ?_ | refine RunsE.inBlock ?_ | refine RunsE.yes rfl ?_ | refine RunsE.no rfl ?_ | refine RunsE.exit rfl ?_)
    refine RunsE.drawS H [14] (by kernel_rfl) ?_; (try clear H); intro w H
    refine OpsD.take 0 rfl (by kernel_rfl) H (fun w H => Ev.loadBlk (n := 32) (vs := (sumOf [] bs).map BV) H rfl (by kernel_rfl) (by simp) m0) rfl ?_
    refine OpsD.take 1 rfl (by kernel_rfl) H (fun w H => Ev.move rfl) rfl ?_
    refine OpsD.one 2 (by kernel_rfl) (StepD.ex rfl (Ex.call rfl Tryd.call9 (rsum_spec bs _ (by omega) w _ hv.tail H)) rfl ?_); (try clear H); rintro _ w ⟨rfl, H⟩; refine ⟨(by first | exact H | exact H.drop | exact H.drop.drop | exact H.dropL), ?_⟩
    refine OpsD.take 3 rfl (by kernel_rfl) H (fun w H => Ev.bytesEqT (n := 32) rfl rfl (by kernel_rfl) (by simp)) rfl ?_
    refine OpsD.take 4 rfl (by kernel_rfl) H (fun w H => Ev.move rfl) rfl ?_
    first | refine OpsD.takeYes 5 rfl (by kernel_rfl) rfl rfl H (fun w H => Ev.loadBlk (n := 32) (vs := (sumOf [] bs).map BV) H rfl (by kernel_rfl) (by simp) m0) rfl ?_ | refine OpsD.takeNo 5 rfl (by kernel_rfl) rfl rfl H rfl ?_ | refine OpsD.takeOff 5 rfl (by kernel_rfl) rfl rfl H rfl ?_
    first | refine OpsD.takeYes 7 rfl (by kernel_rfl) rfl rfl H (fun w H => Ev.loadBlk (n := 32) (vs := (sumOf [] bs).map BV) H rfl (by kernel_rfl) (by simp) m0) rfl ?_ | refine OpsD.takeNo 7 rfl (by kernel_rfl) rfl rfl H rfl ?_ | refine OpsD.takeOff 7 rfl (by kernel_rfl) rfl rfl H rfl ?_
    first | (refine OpsD.one 6 (by kernel_rfl) (StepD.exYes rfl rfl rfl (Ex.call rfl Tryd.call10 (text_spec (sumOf [] bs) (sumOf_length _ _) w _ H)) rfl ?_); (try clear H); rintro _ w ⟨rfl, H⟩; refine ⟨(by first | exact H | exact H.drop | exact H.drop.drop | exact H.dropL), ?_⟩) | refine OpsD.takeNo 6 rfl (by kernel_rfl) rfl rfl H rfl ?_ | refine OpsD.takeOff 6 rfl (by kernel_rfl) rfl rfl H rfl ?_
    first | (refine OpsD.one 8 (by kernel_rfl) (StepD.exYes rfl rfl rfl (Ex.call rfl Tryd.call11 (rtext_spec (sumOf [] bs) (sumOf_length _ _) w _ H)) rfl ?_); (try clear H); rintro _ w ⟨rfl, H⟩; refine ⟨(by first | exact H | exact H.drop | exact H.drop.drop | exact H.dropL), ?_⟩) | refine OpsD.takeNo 8 rfl (by kernel_rfl) rfl rfl H rfl ?_ | refine OpsD.takeOff 8 rfl (by kernel_rfl) rfl rfl H rfl ?_
    first | refine OpsD.takeYes 9 rfl (by kernel_rfl) rfl rfl H (fun w H => Ev.strEqT rfl rfl rfl) rfl ?_ | refine OpsD.takeNo 9 rfl (by kernel_rfl) rfl rfl H rfl ?_ | refine OpsD.takeOff 9 rfl (by kernel_rfl) rfl rfl H rfl ?_
    refine OpsD.take 10 rfl (by kernel_rfl) H (fun w H => (by first | exact Ev.pickT rfl rfl | exact Ev.pickF rfl rfl)) rfl ?_
    refine OpsD.take 11 rfl (by kernel_rfl) H (fun w H => Ev.move rfl) rfl ?_
    first | (refine OpsD.one 12 (by kernel_rfl) (StepD.exYes rfl rfl rfl (Ex.call rfl Tryd.call7 (sure_spec w _ hG.tail H)) rfl ?_); (try clear H); rintro _ w ⟨rfl, H⟩; refine ⟨(by first | exact H | exact H.drop | exact H.drop.drop | exact H.dropL), ?_⟩) | refine OpsD.takeNo 12 rfl (by kernel_rfl) rfl rfl H rfl ?_ | refine OpsD.takeOff 12 rfl (by kernel_rfl) rfl rfl H rfl ?_
    refine OpsD.take 13 rfl (by kernel_rfl) H (fun w H => (by first | exact Ev.pickT rfl rfl | exact Ev.pickF rfl rfl)) rfl ?_
    refine OpsD.one 14 (by kernel_rfl) (StepD.exT rfl rfl (Ev.ex (Ev.assign rfl)) rfl ?_); rintro _ _ ⟨rfl, rfl⟩
    refine OpsD.done (by kernel_rfl) ?_
    repeat (first | refine RunsE.seq ?_ | refine RunsE.skip ?_ | refine RunsE.block ?_ | refine RunsE.inBlock ?_ | refine RunsE.yes rfl ?_ | refine RunsE.no rfl ?_ | refine RunsE.exit rfl ?_)
    exact RunsE.ret1 Tryd.func3 rfl rfl ⟨rfl, H.drop⟩

end Go.Proofs.YtfohpgbeongjfaaDoor
