/-
  The proof's parts, in one file: ShR2, ShF, ShG.
-/
import Derived.Test.YtflfaiakenahlaaGreatDoorM3

section
/-
  Layer 1's reader: Uint, Count, Bytes, Done.
-/
namespace Go.Proofs.YtflfaiakenahlaaGreatDoor.V

theorem numM_lt {B : List UInt8} {most : Nat} (h : (numM B most).1 ≠ 0) : (numM B most).2 = (0, 0) := by
  cases B with
  | nil => rfl
  | cons c r =>
    by_cases h1 : 8 < c.toNat
    · rw [numM_3 h1]
    by_cases h2 : r.length < c.toNat
    · rw [numM_12 h1 h2]
    by_cases h3 : 0 < c.toNat ∧ r.head? = some 0
    · rw [numM_f h1 h2 h3]
    by_cases h4 : most < be (r.take c.toNat)
    · rw [numM_4 h1 h2 h3 h4]
    · rw [numM_0 h1 h2 h3 h4] at h; exact absurd rfl h

theorem eq0 (c : UInt8) : (((c.toNat : Nat) : Int) == 0) = decide (c = 0) := by
  rw [Bool.eq_iff_iff, beq_iff_eq, decide_eq_true_iff]
  exact ⟨fun h => UInt8.toNat_inj.1 (by simpa using h), fun h => by rw [h]; rfl⟩
theorem ne255 (d : UInt8) : (((d.toNat : Nat) : Int) != 255) = decide (d ≠ 255) := by
  rw [Bool.eq_iff_iff, bne_iff_ne, decide_eq_true_iff]
  refine not_congr ⟨fun h => UInt8.toNat_inj.1 ?_, fun h => by rw [h]; rfl⟩
  have : d.toNat = 255 := by omega
  rw [this]; rfl
theorem scanM_end {most : Nat} {out : List UInt8} : scanM most out [0] = (12, [], []) := rfl
theorem scanM_00 {most : Nat} {out r : List UInt8} : scanM most out (0 :: 0 :: r) = (0, out, r) := rfl
theorem scanM_03 {most : Nat} {out r : List UInt8} {d : UInt8} (h1 : d ≠ 0) (h2 : d ≠ 255) : scanM most out (0 :: d :: r) = (3, [], []) := by
  conv => lhs; unfold scanM
  simp [h1, h2]
theorem scanM_0f {most : Nat} {out r : List UInt8} : scanM most out (0 :: 255 :: r) = if out.length = most then (2, [], []) else scanM most (out ++ [0]) r := by
  conv => lhs; unfold scanM
  simp only [if_true]
  rw [if_neg (by decide), if_neg (by decide)]
theorem scanM_c {most : Nat} {out r : List UInt8} {c : UInt8} (h : c ≠ 0) : scanM most out (c :: r) = if out.length = most then (2, [], []) else scanM most (out ++ [c]) r := by
  conv => lhs; unfold scanM
  rw [if_neg h]

section
variable {P : Program} {w : World} {e : Env} {ty : TypeId} {x y : Operand}
theorem Ev.maxN {k k' : IntKind} {a b c : Int} {ats : Array TypeId} (hx : e.val x = some (.int k a)) (hy : e.val y = some (.int k' b)) (hc : c = if b > a then b else a) :
    Ev P w e (.call ⟨.builtin .max, #[x, y], ats⟩) ty (.int k c) := .of fun ρ hρ _ _ _ _ => by
  subst hc
  simp [execOp, resolve, invoke, builtin, hρ _ _ hx, hρ _ _ hy, Builtin.max_, Builtin.max2]
end

end Go.Proofs.YtflfaiakenahlaaGreatDoor.V
namespace Go.Proofs.YtflfaiakenahlaaGreatDoor
open Go.Proofs.YtflfaiakenahlaaGreatDoor.V

theorem ruint_spec [Strm] (b : Nat) (v : Value) (line : List UInt8) (k e most : Nat) (hk : k ≤ line.length) (hl : line.length ≤ 1000000) (w : World) (F : List (Nat × Obj)) (hv : Inp F v line) (H : SL w ((b, rdO v k e) :: F)) :
    Does Tryz.prog 37 #[.pointer (some ⟨b, 0, none⟩), .int .u64 (most : Int)] w fun r w' => ∃ k', k' ≤ line.length ∧ line.drop k' = (uintM most (line.drop k, e)).1.1 ∧
      r = .int .u64 ((uintM most (line.drop k, e)).2 : Int) ∧ SL w' ((b, rdO v k' (uintM most (line.drop k, e)).1.2) :: F) := by
  refine Does.intro (args := [_, _]) (e := [(0, _), (1, _)]) Tryz.func37 rfl Tryz.ntmps37 rfl rfl ?_
  repeat (first | refine .seq ?_ | refine .skip ?_ | refine .block ?_ | refine .inBlock ?_ | refine .yes rfl ?_ | refine .no rfl ?_ | refine .exit rfl ?_)
  repeat (first | refine .seq ?_ | refine .skip ?_ | refine .block ?_ | refine .inBlock ?_ | refine .yes rfl ?_ | refine .no rfl ?_ | refine .exit rfl ?_)
  refine RunsE.region ?_
  refine OpsE.ev (Ev.assign rfl) rfl ?_
  refine OpsE.nil ?_
  repeat (first | refine .seq ?_ | refine .skip ?_ | refine .block ?_ | refine .inBlock ?_ | refine .yes rfl ?_ | refine .no rfl ?_ | refine .exit rfl ?_)
  refine RunsE.region ?_
  refine OpsE.ev (Ev.move rfl) rfl ?_
  refine OpsE.ex (Ex.call rfl Tryz.call67 (off_spec b v k e w F H)) rfl ?_; (try clear H); rintro _ w ⟨rfl, H⟩
  refine OpsE.nil ?_
  by_cases h0 : e = 0
  · repeat refine RunsE.seq ?_
    refine RunsE.no (by rw [decide_eq_false (by simpa using h0)]; rfl) ?_
    rw [h0] at H ⊢
    repeat (first | refine .seq ?_ | refine .skip ?_ | refine .block ?_ | refine .inBlock ?_ | refine .yes rfl ?_ | refine .no rfl ?_ | refine .exit rfl ?_)
    refine RunsE.region ?_
    refine OpsE.ev (Ev.move rfl) rfl ?_
    refine OpsE.ev (Ev.move rfl) rfl ?_
    refine OpsE.ex (Ex.call rfl Tryz.call68 (number_spec b v line k most hk hl w F hv H)) rfl ?_; (try clear H); rintro _ w ⟨rfl, H⟩
    refine OpsE.ev (Ev.move rfl) rfl ?_
    refine OpsE.ev (Ev.extract rfl rfl) rfl ?_
    refine OpsE.ev (Ev.extract rfl rfl) rfl ?_
    refine OpsE.ev (Ev.extract rfl rfl) rfl ?_
    refine OpsE.ev (Ev.assign rfl) rfl ?_
    refine OpsE.ev (Ev.assign rfl) rfl ?_
    refine OpsE.ev (Ev.assign rfl) rfl ?_
    refine OpsE.nil ?_
    repeat (first | refine .seq ?_ | refine .skip ?_ | refine .block ?_ | refine .inBlock ?_ | refine .yes rfl ?_ | refine .no rfl ?_ | refine .exit rfl ?_)
    refine RunsE.region ?_
    refine OpsE.ev (Ev.move rfl) rfl ?_
    refine OpsE.nil ?_
    by_cases h1 : (numM (line.drop k) most).1 = 0
    · have h2 := numM_ok h1
      have hll : (line.drop k).length = line.length - k := List.length_drop
      repeat refine RunsE.seq ?_
      refine RunsE.yes (by rw [decide_eq_true h1]; rfl) ?_
      repeat (first | refine .seq ?_ | refine .skip ?_ | refine .block ?_ | refine .inBlock ?_ | refine .yes rfl ?_ | refine .no rfl ?_ | refine .exit rfl ?_)
      refine RunsE.region ?_
      refine OpsE.ev (Ev.move rfl) rfl ?_
      refine OpsE.ev (Ev.nilCheck rfl) rfl ?_
      refine OpsE.ev (Ev.fieldAddr (o := 1) rfl (by kernel_rfl)) rfl ?_
      refine OpsE.ev (Ev.load H rfl (by kernel_rfl) (by first | exact Rd.mk m0 rfl | exact Rd.mk m1 rfl | exact Rd.mk m2 rfl | exact Rd.mk m3 rfl | assumption)) rfl ?_
      refine OpsE.ev (Ev.move rfl) rfl ?_
      refine OpsE.ev (Ev.add (c := ((k + (numM (line.drop k) most).2.2 : Nat) : Int)) rfl rfl (by rw [qi64 (by omega) (by omega)]; omega)) rfl ?_
      refine OpsE.ev (Ev.nilCheck rfl) rfl ?_
      refine OpsE.ev (Ev.fieldAddr (o := 1) rfl (by kernel_rfl)) rfl ?_
      refine OpsE.exn (Ex.store1 H rfl rfl (by kernel_rfl) rfl u0 (by simp) (Thaw.zero _ _) rfl) ?_; (try clear H); intro _ w H
      refine OpsE.nil ?_
      repeat (first | refine .seq ?_ | refine .skip ?_ | refine .block ?_ | refine .inBlock ?_ | refine .yes rfl ?_ | refine .no rfl ?_ | refine .exit rfl ?_)
      refine RunsE.region ?_
      refine OpsE.ev (Ev.move rfl) rfl ?_
      refine OpsE.ev (Ev.assign rfl) rfl ?_
      refine OpsE.nil ?_
      repeat (first | refine .seq ?_ | refine .skip ?_ | refine .block ?_ | refine .inBlock ?_ | refine .yes rfl ?_ | refine .no rfl ?_ | refine .exit rfl ?_)
      refine RunsE.ret1 Tryz.func37 rfl rfl ⟨k + (numM (line.drop k) most).2.2, by omega, ?_, ?_, ?_⟩
      · simp [uintM, h1, List.drop_drop]
      · simp [uintM, h1]
      · rw [h1] at H
        have e1 : (uintM most (line.drop k, 0)).1.2 = 0 := by simp [uintM, h1]
        rw [e1]
        exact H
    · repeat refine RunsE.seq ?_
      refine RunsE.no (by rw [decide_eq_false h1]; rfl) ?_
      repeat (first | refine .seq ?_ | refine .skip ?_ | refine .block ?_ | refine .inBlock ?_ | refine .yes rfl ?_ | refine .no rfl ?_ | refine .exit rfl ?_)
      refine RunsE.region ?_
      refine OpsE.ev (Ev.move rfl) rfl ?_
      refine OpsE.ev (Ev.assign rfl) rfl ?_
      refine OpsE.nil ?_
      repeat (first | refine .seq ?_ | refine .skip ?_ | refine .block ?_ | refine .inBlock ?_ | refine .yes rfl ?_ | refine .no rfl ?_ | refine .exit rfl ?_)
      refine RunsE.ret1 Tryz.func37 rfl rfl ⟨k, hk, ?_, ?_, ?_⟩
      · simp [uintM, h1]
      · have := numM_lt h1
        simp [uintM, h1, this]
      · have e1 : (uintM most (line.drop k, 0)).1.2 = (numM (line.drop k) most).1 := by simp [uintM, h1]
        rw [e1]
        exact H
  · repeat refine RunsE.seq ?_
    refine RunsE.yes (by rw [decide_eq_true (by simpa using h0)]; rfl) ?_
    repeat (first | refine .seq ?_ | refine .skip ?_ | refine .block ?_ | refine .inBlock ?_ | refine .yes rfl ?_ | refine .no rfl ?_ | refine .exit rfl ?_)
    refine RunsE.region ?_
    refine OpsE.ev (Ev.assign rfl) rfl ?_
    refine OpsE.nil ?_
    repeat (first | refine .seq ?_ | refine .skip ?_ | refine .block ?_ | refine .inBlock ?_ | refine .yes rfl ?_ | refine .no rfl ?_ | refine .exit rfl ?_)
    refine RunsE.ret1 Tryz.func37 rfl rfl ⟨k, hk, ?_, ?_, ?_⟩
    · simp [uintM, h0]
    · simp [uintM, h0]
    · have e1 : (uintM most (line.drop k, e)).1.2 = e := by simp [uintM, h0]
      rw [e1]
      exact H

set_option maxHeartbeats 1000000 in
theorem rcount_spec [Strm] (b : Nat) (v : Value) (line : List UInt8) (k e most : Nat) (hm : most ≤ 1000000) (hk : k ≤ line.length) (hl : line.length ≤ 1000000) (w : World) (F : List (Nat × Obj)) (hv : Inp F v line) (H : SL w ((b, rdO v k e) :: F)) :
    Does Tryz.prog 36 #[.pointer (some ⟨b, 0, none⟩), .int .i64 (most : Int)] w fun r w' => ∃ k', k' ≤ line.length ∧ line.drop k' = (countM most (line.drop k, e)).1.1 ∧
      r = .int .i64 ((countM most (line.drop k, e)).2 : Int) ∧ SL w' ((b, rdO v k' (countM most (line.drop k, e)).1.2) :: F) := by
  refine Does.intro (args := [_, _]) (e := [(0, _), (1, _)]) Tryz.func36 rfl Tryz.ntmps36 rfl rfl ?_
  repeat (first | refine .seq ?_ | refine .skip ?_ | refine .block ?_ | refine .inBlock ?_ | refine .yes rfl ?_ | refine .no rfl ?_ | refine .exit rfl ?_)
  repeat (first | refine .seq ?_ | refine .skip ?_ | refine .block ?_ | refine .inBlock ?_ | refine .yes rfl ?_ | refine .no rfl ?_ | refine .exit rfl ?_)
  refine RunsE.region ?_
  refine OpsE.ev (Ev.assign rfl) rfl ?_
  refine OpsE.nil ?_
  repeat (first | refine .seq ?_ | refine .skip ?_ | refine .block ?_ | refine .inBlock ?_ | refine .yes rfl ?_ | refine .no rfl ?_ | refine .exit rfl ?_)
  refine RunsE.region ?_
  refine OpsE.ev (Ev.move rfl) rfl ?_
  refine OpsE.ex (Ex.call rfl Tryz.call67 (off_spec b v k e w F H)) rfl ?_; (try clear H); rintro _ w ⟨rfl, H⟩
  refine OpsE.nil ?_
  by_cases h0 : e = 0
  · repeat refine RunsE.seq ?_
    refine RunsE.no (by rw [decide_eq_false (by simpa using h0)]; rfl) ?_
    rw [h0] at H ⊢
    repeat (first | refine .seq ?_ | refine .skip ?_ | refine .block ?_ | refine .inBlock ?_ | refine .yes rfl ?_ | refine .no rfl ?_ | refine .exit rfl ?_)
    refine RunsE.region ?_
    refine OpsE.ev (Ev.move rfl) rfl ?_
    refine OpsE.ev (Ev.move rfl) rfl ?_
    refine OpsE.ev (Ev.maxN (c := (most : Int)) rfl rfl (by split <;> omega)) rfl ?_
    refine OpsE.ev (Ev.conv (k' := .u64) rfl (by kernel_rfl) (by kernel_rfl)) rfl ?_
    refine OpsE.ex (Ex.call rfl Tryz.call68 (number_spec b v line k most hk hl w F hv H)) rfl ?_; (try clear H); rintro _ w ⟨rfl, H⟩
    refine OpsE.ev (Ev.move rfl) rfl ?_
    refine OpsE.ev (Ev.extract rfl rfl) rfl ?_
    refine OpsE.ev (Ev.extract rfl rfl) rfl ?_
    refine OpsE.ev (Ev.extract rfl rfl) rfl ?_
    refine OpsE.ev (Ev.assign rfl) rfl ?_
    refine OpsE.ev (Ev.assign rfl) rfl ?_
    refine OpsE.ev (Ev.assign rfl) rfl ?_
    refine OpsE.nil ?_
    have hll : (line.drop k).length = line.length - k := List.length_drop
    by_cases h1 : (numM (line.drop k) most).1 = 0
    · have h2 := numM_ok h1
      rw [h1] at H
      rw [decide_eq_true h1]
      repeat (first | refine .seq ?_ | refine .skip ?_ | refine .block ?_ | refine .inBlock ?_ | refine .yes rfl ?_ | refine .no rfl ?_ | refine .exit rfl ?_)
      refine RunsE.region ?_
      refine OpsE.ev (Ev.move rfl) rfl ?_
      refine OpsE.ev (Ev.move rfl) rfl ?_
      first | (refine OpsE.yes rfl rfl ?_; refine OpsE.ev (Ev.move rfl) rfl ?_) | refine OpsE.no rfl rfl rfl ?_ | refine OpsE.off rfl rfl rfl ?_
      first | (refine OpsE.yes rfl rfl ?_; refine OpsE.ev (Ev.move rfl) rfl ?_) | refine OpsE.no rfl rfl rfl ?_ | refine OpsE.off rfl rfl rfl ?_
      first | (refine OpsE.yes rfl rfl ?_; refine OpsE.ex (Ex.call rfl Tryz.call69 (rest_spec b v line k 0 hk hl w F hv H)) rfl ?_; (try clear H); rintro u w ⟨hu, H⟩; obtain ⟨a1, c1, rfl, hc1⟩ := hu.len) | refine OpsE.no rfl rfl rfl ?_ | refine OpsE.off rfl rfl rfl ?_
      first | (refine OpsE.yes rfl rfl ?_; refine OpsE.ev (Ev.lenSl (d := 5) rfl rfl (by kernel_rfl)) rfl ?_) | refine OpsE.no rfl rfl rfl ?_ | refine OpsE.off rfl rfl rfl ?_
      first | (refine OpsE.yes rfl rfl ?_; refine OpsE.ev (Ev.move rfl) rfl ?_) | refine OpsE.no rfl rfl rfl ?_ | refine OpsE.off rfl rfl rfl ?_
      first | (refine OpsE.yes rfl rfl ?_; refine OpsE.ev (Ev.sub (c := (((line.drop k).length - (numM (line.drop k) most).2.2 : Nat) : Int)) rfl rfl (by rw [qi64 (by omega) (by omega)]; omega)) rfl ?_) | refine OpsE.no rfl rfl rfl ?_ | refine OpsE.off rfl rfl rfl ?_
      first | (refine OpsE.yes rfl rfl ?_; refine OpsE.ev (Ev.conv (c := (((line.drop k).length - (numM (line.drop k) most).2.2 : Nat) : Int)) (k' := .u64) rfl (by kernel_rfl) (by kernel_rfl) (qu64 (by omega) (by omega))) rfl ?_) | refine OpsE.no rfl rfl rfl ?_ | refine OpsE.off rfl rfl rfl ?_
      first | (refine OpsE.yes rfl rfl ?_; refine OpsE.ev (Ev.gtr (r := decide ((line.drop k).length - (numM (line.drop k) most).2.2 < (numM (line.drop k) most).2.1)) rfl rfl (by rw [Bool.eq_iff_iff, decide_eq_true_iff, decide_eq_true_iff]; omega)) rfl ?_) | refine OpsE.no rfl rfl rfl ?_ | refine OpsE.off rfl rfl rfl ?_
      refine OpsE.ev ((by first | exact Ev.pickT rfl rfl | exact Ev.pickF rfl rfl)) rfl ?_
      refine OpsE.nil ?_
      by_cases h3 : (line.drop k).length - (numM (line.drop k) most).2.2 < (numM (line.drop k) most).2.1
      · repeat refine RunsE.seq ?_
        refine RunsE.yes (by rw [decide_eq_true h3]; rfl) ?_
        repeat (first | refine .seq ?_ | refine .skip ?_ | refine .block ?_ | refine .inBlock ?_ | refine .yes rfl ?_ | refine .no rfl ?_ | refine .exit rfl ?_)
        refine RunsE.region ?_
        refine OpsE.ev (Ev.move rfl) rfl ?_
        refine OpsE.ev (Ev.makeInterface (d := (.int .i64)) rfl (by kernel_rfl) rfl) rfl ?_
        refine OpsE.ex (Ex.call rfl Tryz.call70 (fail_spec b v k 2 w F H)) rfl ?_; (try clear H); rintro _ w ⟨rfl, H⟩
        refine OpsE.nil ?_
        repeat (first | refine .seq ?_ | refine .skip ?_ | refine .block ?_ | refine .inBlock ?_ | refine .yes rfl ?_ | refine .no rfl ?_ | refine .exit rfl ?_)
        refine RunsE.region ?_
        refine OpsE.ev (Ev.assign rfl) rfl ?_
        refine OpsE.nil ?_
        repeat (first | refine .seq ?_ | refine .skip ?_ | refine .block ?_ | refine .inBlock ?_ | refine .yes rfl ?_ | refine .no rfl ?_ | refine .exit rfl ?_)
        have e1 : countM most (line.drop k, 0) = ((line.drop k, 2), 0) := by
          unfold countM
          simp only [ne_eq, not_true, if_false, h1, if_pos h3]
        rw [e1]
        exact RunsE.ret1 Tryz.func36 rfl rfl ⟨k, hk, rfl, rfl, H⟩
      · repeat refine RunsE.seq ?_
        refine RunsE.no (by rw [decide_eq_false h3]; rfl) ?_
        repeat (first | refine .seq ?_ | refine .skip ?_ | refine .block ?_ | refine .inBlock ?_ | refine .yes rfl ?_ | refine .no rfl ?_ | refine .exit rfl ?_)
        refine RunsE.region ?_
        refine OpsE.ev (Ev.move rfl) rfl ?_
        refine OpsE.nil ?_
        repeat (first | refine .seq ?_ | refine .skip ?_ | refine .block ?_ | refine .inBlock ?_ | refine .yes rfl ?_ | refine .no rfl ?_ | refine .exit rfl ?_)
        repeat (first | refine .seq ?_ | refine .skip ?_ | refine .block ?_ | refine .inBlock ?_ | refine .yes rfl ?_ | refine .no rfl ?_ | refine .exit rfl ?_)
        refine RunsE.region ?_
        refine OpsE.ev (Ev.move rfl) rfl ?_
        refine OpsE.ev (Ev.nilCheck rfl) rfl ?_
        refine OpsE.ev (Ev.fieldAddr (o := 1) rfl (by kernel_rfl)) rfl ?_
        refine OpsE.ev (Ev.load H rfl (by kernel_rfl) (by first | exact Rd.mk m0 rfl | exact Rd.mk m1 rfl | exact Rd.mk m2 rfl | exact Rd.mk m3 rfl | assumption)) rfl ?_
        refine OpsE.ev (Ev.move rfl) rfl ?_
        refine OpsE.ev (Ev.add (c := ((k + (numM (line.drop k) most).2.2 : Nat) : Int)) rfl rfl (by rw [qi64 (by omega) (by omega)]; omega)) rfl ?_
        refine OpsE.ev (Ev.nilCheck rfl) rfl ?_
        refine OpsE.ev (Ev.fieldAddr (o := 1) rfl (by kernel_rfl)) rfl ?_
        refine OpsE.exn (Ex.store1 H rfl rfl (by kernel_rfl) rfl u0 (by simp) (Thaw.zero _ _) rfl) ?_; (try clear H); intro _ w H
        refine OpsE.nil ?_
        repeat (first | refine .seq ?_ | refine .skip ?_ | refine .block ?_ | refine .inBlock ?_ | refine .yes rfl ?_ | refine .no rfl ?_ | refine .exit rfl ?_)
        refine RunsE.region ?_
        refine OpsE.ev (Ev.move rfl) rfl ?_
        refine OpsE.ev (Ev.conv (c := ((numM (line.drop k) most).2.1 : Int)) (k' := .i64) rfl (by kernel_rfl) (by kernel_rfl) (qi64 (by omega) (by omega))) rfl ?_
        refine OpsE.ev (Ev.assign rfl) rfl ?_
        refine OpsE.nil ?_
        repeat (first | refine .seq ?_ | refine .skip ?_ | refine .block ?_ | refine .inBlock ?_ | refine .yes rfl ?_ | refine .no rfl ?_ | refine .exit rfl ?_)
        have e1 : countM most (line.drop k, 0) = (((line.drop k).drop (numM (line.drop k) most).2.2, 0), (numM (line.drop k) most).2.1) := by
          unfold countM
          simp only [ne_eq, not_true, if_false, h1, if_neg h3]
        rw [e1]
        exact RunsE.ret1 Tryz.func36 rfl rfl ⟨k + (numM (line.drop k) most).2.2, by omega, by rw [List.drop_drop], rfl, H⟩
    · rw [decide_eq_false h1]
      have hz := numM_lt h1
      repeat (first | refine .seq ?_ | refine .skip ?_ | refine .block ?_ | refine .inBlock ?_ | refine .yes rfl ?_ | refine .no rfl ?_ | refine .exit rfl ?_)
      refine RunsE.region ?_
      refine OpsE.ev (Ev.move rfl) rfl ?_
      refine OpsE.ev (Ev.move rfl) rfl ?_
      first | (refine OpsE.yes rfl rfl ?_; refine OpsE.ev (Ev.move rfl) rfl ?_) | refine OpsE.no rfl rfl rfl ?_ | refine OpsE.off rfl rfl rfl ?_
      first | (refine OpsE.yes rfl rfl ?_; refine OpsE.ev (Ev.move rfl) rfl ?_) | refine OpsE.no rfl rfl rfl ?_ | refine OpsE.off rfl rfl rfl ?_
      first | (refine OpsE.yes rfl rfl ?_; refine OpsE.ex (Ex.call rfl Tryz.call69 (?spec)) rfl ?_; (try clear H); rintro _ w ⟨rfl, H⟩) | refine OpsE.no rfl rfl rfl ?_ | refine OpsE.off rfl rfl rfl ?_
      first | (refine OpsE.yes rfl rfl ?_; refine OpsE.ev (Ev.lenSl (d := 5) rfl rfl (by kernel_rfl)) rfl ?_) | refine OpsE.no rfl rfl rfl ?_ | refine OpsE.off rfl rfl rfl ?_
      first | (refine OpsE.yes rfl rfl ?_; refine OpsE.ev (Ev.move rfl) rfl ?_) | refine OpsE.no rfl rfl rfl ?_ | refine OpsE.off rfl rfl rfl ?_
      first | (refine OpsE.yes rfl rfl ?_; refine OpsE.ev (Ev.sub rfl rfl) rfl ?_) | refine OpsE.no rfl rfl rfl ?_ | refine OpsE.off rfl rfl rfl ?_
      first | (refine OpsE.yes rfl rfl ?_; refine OpsE.ev (Ev.conv (k' := .u64) rfl (by kernel_rfl) (by kernel_rfl)) rfl ?_) | refine OpsE.no rfl rfl rfl ?_ | refine OpsE.off rfl rfl rfl ?_
      first | (refine OpsE.yes rfl rfl ?_; refine OpsE.ev (Ev.gtr rfl rfl) rfl ?_) | refine OpsE.no rfl rfl rfl ?_ | refine OpsE.off rfl rfl rfl ?_
      refine OpsE.ev ((by first | exact Ev.pickT rfl rfl | exact Ev.pickF rfl rfl)) rfl ?_
      refine OpsE.nil ?_
      repeat (first | refine .seq ?_ | refine .skip ?_ | refine .block ?_ | refine .inBlock ?_ | refine .yes rfl ?_ | refine .no rfl ?_ | refine .exit rfl ?_)
      repeat (first | refine .seq ?_ | refine .skip ?_ | refine .block ?_ | refine .inBlock ?_ | refine .yes rfl ?_ | refine .no rfl ?_ | refine .exit rfl ?_)
      refine RunsE.region ?_
      refine OpsE.ev (Ev.move rfl) rfl ?_
      refine OpsE.nil ?_
      repeat (first | refine .seq ?_ | refine .skip ?_ | refine .block ?_ | refine .inBlock ?_ | refine .yes rfl ?_ | refine .no rfl ?_ | refine .exit rfl ?_)
      repeat (first | refine .seq ?_ | refine .skip ?_ | refine .block ?_ | refine .inBlock ?_ | refine .yes rfl ?_ | refine .no rfl ?_ | refine .exit rfl ?_)
      refine RunsE.region ?_
      refine OpsE.ev (Ev.move rfl) rfl ?_
      refine OpsE.ev (Ev.conv (c := ((numM (line.drop k) most).2.1 : Int)) (k' := .i64) rfl (by kernel_rfl) (by kernel_rfl) (by rw [hz]; decide)) rfl ?_
      refine OpsE.ev (Ev.assign rfl) rfl ?_
      refine OpsE.nil ?_
      repeat (first | refine .seq ?_ | refine .skip ?_ | refine .block ?_ | refine .inBlock ?_ | refine .yes rfl ?_ | refine .no rfl ?_ | refine .exit rfl ?_)
      have e1 : countM most (line.drop k, 0) = ((line.drop k, (numM (line.drop k) most).1), 0) := by
        unfold countM
        simp only [ne_eq, not_true, if_false, if_pos h1]
      rw [e1]
      exact RunsE.ret1 Tryz.func36 rfl rfl ⟨k, hk, rfl, by rw [hz], H⟩
  · repeat refine RunsE.seq ?_
    refine RunsE.yes (by rw [decide_eq_true (by simpa using h0)]; rfl) ?_
    repeat (first | refine .seq ?_ | refine .skip ?_ | refine .block ?_ | refine .inBlock ?_ | refine .yes rfl ?_ | refine .no rfl ?_ | refine .exit rfl ?_)
    refine RunsE.region ?_
    refine OpsE.ev (Ev.assign rfl) rfl ?_
    refine OpsE.nil ?_
    repeat (first | refine .seq ?_ | refine .skip ?_ | refine .block ?_ | refine .inBlock ?_ | refine .yes rfl ?_ | refine .no rfl ?_ | refine .exit rfl ?_)
    have e1 : countM most (line.drop k, e) = ((line.drop k, e), 0) := by simp [countM, h0]
    rw [e1]
    exact RunsE.ret1 Tryz.func36 rfl rfl ⟨k, hk, rfl, rfl, H⟩

theorem rdone_spec [Strm] (b : Nat) (v : Value) (line : List UInt8) (k e : Nat) (hk : k ≤ line.length) (hl : line.length ≤ 1000000) (w : World) (F : List (Nat × Obj)) (hv : Inp F v line) (H : SL w ((b, rdO v k e) :: F)) :
    Does Tryz.prog 39 #[.pointer (some ⟨b, 0, none⟩)] w fun r w' => r = EV (doneM (line.drop k, e)) ∧ SL w' ((b, rdO v k e) :: F) := by
  obtain ⟨a, c, rfl, hc⟩ := hv.len
  refine Does.intro (args := [_]) (e := [(0, _)]) Tryz.func39 rfl Tryz.ntmps39 rfl rfl ?_
  repeat (first | refine .seq ?_ | refine .skip ?_ | refine .block ?_ | refine .inBlock ?_ | refine .yes rfl ?_ | refine .no rfl ?_ | refine .exit rfl ?_)
  repeat (first | refine .seq ?_ | refine .skip ?_ | refine .block ?_ | refine .inBlock ?_ | refine .yes rfl ?_ | refine .no rfl ?_ | refine .exit rfl ?_)
  refine RunsE.region ?_
  refine OpsE.ev (Ev.assign rfl) rfl ?_
  refine OpsE.nil ?_
  repeat (first | refine .seq ?_ | refine .skip ?_ | refine .block ?_ | refine .inBlock ?_ | refine .yes rfl ?_ | refine .no rfl ?_ | refine .exit rfl ?_)
  refine RunsE.region ?_
  refine OpsE.ev (Ev.move rfl) rfl ?_
  refine OpsE.ev (Ev.ptrNilEq (el := 131) rfl rfl (by kernel_rfl)) rfl ?_
  refine OpsE.ev (Ev.assign rfl) rfl ?_
  refine OpsE.nil ?_
  repeat (first | refine .seq ?_ | refine .skip ?_ | refine .block ?_ | refine .inBlock ?_ | refine .yes rfl ?_ | refine .no rfl ?_ | refine .exit rfl ?_)
  cases e with
  | zero =>
    repeat (first | refine .seq ?_ | refine .skip ?_ | refine .block ?_ | refine .inBlock ?_ | refine .yes rfl ?_ | refine .no rfl ?_ | refine .exit rfl ?_)
    refine RunsE.region ?_
    refine OpsE.ev (Ev.move rfl) rfl ?_
    refine OpsE.ev (Ev.nilCheck rfl) rfl ?_
    refine OpsE.ev (Ev.fieldAddr (o := 2) rfl (by kernel_rfl)) rfl ?_
    refine OpsE.ev (Ev.load H rfl (by kernel_rfl) (by first | exact Rd.mk m0 rfl | exact Rd.mk m1 rfl | exact Rd.mk m2 rfl | exact Rd.mk m3 rfl | assumption)) rfl ?_
    refine OpsE.ev (Ev.ifNilNeF rfl Tryz.underlying26) rfl ?_
    refine OpsE.ev (Ev.assign rfl) rfl ?_
    refine OpsE.nil ?_
    repeat (first | refine .seq ?_ | refine .skip ?_ | refine .block ?_ | refine .inBlock ?_ | refine .yes rfl ?_ | refine .no rfl ?_ | refine .exit rfl ?_)
    have hll : (line.drop k).length = line.length - k := List.length_drop
    by_cases h1 : k < line.length
    ·
      repeat (first | refine .seq ?_ | refine .skip ?_ | refine .block ?_ | refine .inBlock ?_ | refine .yes rfl ?_ | refine .no rfl ?_ | refine .exit rfl ?_)
      refine RunsE.drawS H [] (by kernel_rfl) ?_; (try clear H); intro w H
      refine OpsD.take 0 rfl (by kernel_rfl) H (fun w H => Ev.move rfl) rfl ?_
      refine OpsD.take 1 rfl (by kernel_rfl) H (fun w H => Ev.nilCheck rfl) rfl ?_
      refine OpsD.take 2 rfl (by kernel_rfl) H (fun w H => Ev.fieldAddr (o := 1) rfl (by kernel_rfl)) rfl ?_
      refine OpsD.take 3 rfl (by kernel_rfl) H (fun w H => Ev.load H rfl (by kernel_rfl) (by first | exact Rd.mk m0 rfl | exact Rd.mk m1 rfl | exact Rd.mk m2 rfl | exact Rd.mk m3 rfl | assumption)) rfl ?_
      refine OpsD.take 4 rfl (by kernel_rfl) H (fun w H => Ev.move rfl) rfl ?_
      refine OpsD.take 5 rfl (by kernel_rfl) H (fun w H => Ev.nilCheck rfl) rfl ?_
      refine OpsD.take 6 rfl (by kernel_rfl) H (fun w H => Ev.fieldAddr (o := 0) rfl (by kernel_rfl)) rfl ?_
      refine OpsD.take 7 rfl (by kernel_rfl) H (fun w H => Ev.load H rfl (by kernel_rfl) (by first | exact Rd.mk m0 rfl | exact Rd.mk m1 rfl | exact Rd.mk m2 rfl | exact Rd.mk m3 rfl | assumption)) rfl ?_
      refine OpsD.take 8 rfl (by kernel_rfl) H (fun w H => Ev.lenSl (d := 5) rfl rfl (by kernel_rfl)) rfl ?_
      refine OpsD.take 9 rfl (by kernel_rfl) H (fun w H => Ev.lss (r := true) rfl rfl (decide_eq_true (by omega))) rfl ?_
      refine OpsD.take 10 rfl (by kernel_rfl) H (fun w H => Ev.assign rfl) rfl ?_
      refine OpsD.done (by kernel_rfl) ?_
      repeat (first | refine .seq ?_ | refine .skip ?_ | refine .block ?_ | refine .inBlock ?_ | refine .yes rfl ?_ | refine .no rfl ?_ | refine .exit rfl ?_)
      repeat (first | refine .seq ?_ | refine .skip ?_ | refine .block ?_ | refine .inBlock ?_ | refine .yes rfl ?_ | refine .no rfl ?_ | refine .exit rfl ?_)
      refine RunsE.region ?_
      refine OpsE.ev (Ev.makeInterface (d := (.int .i64)) rfl (by kernel_rfl) rfl) rfl ?_
      refine OpsE.ev (Ev.assign rfl) rfl ?_
      refine OpsE.nil ?_
      repeat (first | refine .seq ?_ | refine .skip ?_ | refine .block ?_ | refine .inBlock ?_ | refine .yes rfl ?_ | refine .no rfl ?_ | refine .exit rfl ?_)
      refine RunsE.ret1 Tryz.func39 rfl rfl ⟨?_, H⟩
      have : line.drop k ≠ [] := fun h => by rw [h] at hll; simp at hll; omega
      simp [doneM, this]
      rfl
    ·
      repeat (first | refine .seq ?_ | refine .skip ?_ | refine .block ?_ | refine .inBlock ?_ | refine .yes rfl ?_ | refine .no rfl ?_ | refine .exit rfl ?_)
      refine RunsE.drawS H [] (by kernel_rfl) ?_; (try clear H); intro w H
      refine OpsD.take 0 rfl (by kernel_rfl) H (fun w H => Ev.move rfl) rfl ?_
      refine OpsD.take 1 rfl (by kernel_rfl) H (fun w H => Ev.nilCheck rfl) rfl ?_
      refine OpsD.take 2 rfl (by kernel_rfl) H (fun w H => Ev.fieldAddr (o := 1) rfl (by kernel_rfl)) rfl ?_
      refine OpsD.take 3 rfl (by kernel_rfl) H (fun w H => Ev.load H rfl (by kernel_rfl) (by first | exact Rd.mk m0 rfl | exact Rd.mk m1 rfl | exact Rd.mk m2 rfl | exact Rd.mk m3 rfl | assumption)) rfl ?_
      refine OpsD.take 4 rfl (by kernel_rfl) H (fun w H => Ev.move rfl) rfl ?_
      refine OpsD.take 5 rfl (by kernel_rfl) H (fun w H => Ev.nilCheck rfl) rfl ?_
      refine OpsD.take 6 rfl (by kernel_rfl) H (fun w H => Ev.fieldAddr (o := 0) rfl (by kernel_rfl)) rfl ?_
      refine OpsD.take 7 rfl (by kernel_rfl) H (fun w H => Ev.load H rfl (by kernel_rfl) (by first | exact Rd.mk m0 rfl | exact Rd.mk m1 rfl | exact Rd.mk m2 rfl | exact Rd.mk m3 rfl | assumption)) rfl ?_
      refine OpsD.take 8 rfl (by kernel_rfl) H (fun w H => Ev.lenSl (d := 5) rfl rfl (by kernel_rfl)) rfl ?_
      refine OpsD.take 9 rfl (by kernel_rfl) H (fun w H => Ev.lss (r := false) rfl rfl (decide_eq_false (by omega))) rfl ?_
      refine OpsD.take 10 rfl (by kernel_rfl) H (fun w H => Ev.assign rfl) rfl ?_
      refine OpsD.done (by kernel_rfl) ?_
      repeat (first | refine .seq ?_ | refine .skip ?_ | refine .block ?_ | refine .inBlock ?_ | refine .yes rfl ?_ | refine .no rfl ?_ | refine .exit rfl ?_)
      repeat (first | refine .seq ?_ | refine .skip ?_ | refine .block ?_ | refine .inBlock ?_ | refine .yes rfl ?_ | refine .no rfl ?_ | refine .exit rfl ?_)
      refine RunsE.region ?_
      refine OpsE.ev (Ev.assign rfl) rfl ?_
      refine OpsE.nil ?_
      repeat (first | refine .seq ?_ | refine .skip ?_ | refine .block ?_ | refine .inBlock ?_ | refine .yes rfl ?_ | refine .no rfl ?_ | refine .exit rfl ?_)
      refine RunsE.ret1 Tryz.func39 rfl rfl ⟨?_, H⟩
      have : line.drop k = [] := List.eq_nil_of_length_eq_zero (by omega)
      simp [doneM, this]
      rfl
  | succ n =>
    repeat (first | refine .seq ?_ | refine .skip ?_ | refine .block ?_ | refine .inBlock ?_ | refine .yes rfl ?_ | refine .no rfl ?_ | refine .exit rfl ?_)
    refine RunsE.region ?_
    refine OpsE.ev (Ev.move rfl) rfl ?_
    refine OpsE.ev (Ev.nilCheck rfl) rfl ?_
    refine OpsE.ev (Ev.fieldAddr (o := 2) rfl (by kernel_rfl)) rfl ?_
    refine OpsE.ev (Ev.load H rfl (by kernel_rfl) (by first | exact Rd.mk m0 rfl | exact Rd.mk m1 rfl | exact Rd.mk m2 rfl | exact Rd.mk m3 rfl | assumption)) rfl ?_
    refine OpsE.ev (Ev.ifNilNe rfl Tryz.underlying26) rfl ?_
    refine OpsE.ev (Ev.assign rfl) rfl ?_
    refine OpsE.nil ?_
    repeat (first | refine .seq ?_ | refine .skip ?_ | refine .block ?_ | refine .inBlock ?_ | refine .yes rfl ?_ | refine .no rfl ?_ | refine .exit rfl ?_)
    repeat (first | refine .seq ?_ | refine .skip ?_ | refine .block ?_ | refine .inBlock ?_ | refine .yes rfl ?_ | refine .no rfl ?_ | refine .exit rfl ?_)
    refine RunsE.region ?_
    refine OpsE.ev (Ev.move rfl) rfl ?_
    refine OpsE.ev (Ev.nilCheck rfl) rfl ?_
    refine OpsE.ev (Ev.fieldAddr (o := 2) rfl (by kernel_rfl)) rfl ?_
    refine OpsE.ev (Ev.load H rfl (by kernel_rfl) (by first | exact Rd.mk m0 rfl | exact Rd.mk m1 rfl | exact Rd.mk m2 rfl | exact Rd.mk m3 rfl | assumption)) rfl ?_
    refine OpsE.ev (Ev.assign rfl) rfl ?_
    refine OpsE.nil ?_
    repeat (first | refine .seq ?_ | refine .skip ?_ | refine .block ?_ | refine .inBlock ?_ | refine .yes rfl ?_ | refine .no rfl ?_ | refine .exit rfl ?_)
    exact RunsE.ret1 Tryz.func39 rfl rfl ⟨rfl, H⟩

set_option maxHeartbeats 2000000 in
theorem rbytes_spec [Strm] (b : Nat) (v : Value) (line : List UInt8) (k e most : Nat) (hm : most ≤ 1000000) (hk : k ≤ line.length) (hl : line.length ≤ 1000000) (w : World) (F : List (Nat × Obj)) (hv : Inp F v line) (H : SL w ((b, rdO v k e) :: F)) :
    Does Tryz.prog 71 #[.pointer (some ⟨b, 0, none⟩), .int .i64 (most : Int)] w fun r w' => ∃ k' B, k' ≤ line.length ∧ line.drop k' = (bytesM most (line.drop k, e)).1.1 ∧
      Slc gB 1 5 r (bytesM most (line.drop k, e)).2 B ∧ SL w' (B ++ (b, rdO v k' (bytesM most (line.drop k, e)).1.2) :: F) := by
  refine Does.intro (args := [_, _]) (e := [(0, _), (1, _)]) Tryz.func71 rfl Tryz.ntmps71 rfl rfl ?_
  repeat (first | refine .seq ?_ | refine .skip ?_ | refine .block ?_ | refine .inBlock ?_ | refine .yes rfl ?_ | refine .no rfl ?_ | refine .exit rfl ?_)
  repeat (first | refine .seq ?_ | refine .skip ?_ | refine .block ?_ | refine .inBlock ?_ | refine .yes rfl ?_ | refine .no rfl ?_ | refine .exit rfl ?_)
  refine RunsE.region ?_
  refine OpsE.ev (Ev.assign rfl) rfl ?_
  refine OpsE.nil ?_
  repeat (first | refine .seq ?_ | refine .skip ?_ | refine .block ?_ | refine .inBlock ?_ | refine .yes rfl ?_ | refine .no rfl ?_ | refine .exit rfl ?_)
  refine RunsE.region ?_
  refine OpsE.ev (Ev.move rfl) rfl ?_
  refine OpsE.ex (Ex.call rfl Tryz.call67 (off_spec b v k e w F H)) rfl ?_; (try clear H); rintro _ w ⟨rfl, H⟩
  refine OpsE.nil ?_
  by_cases h0 : e = 0
  · repeat refine RunsE.seq ?_
    refine RunsE.no (by rw [decide_eq_false (by simpa using h0)]; rfl) ?_
    rw [h0] at H ⊢
    repeat (first | refine .seq ?_ | refine .skip ?_ | refine .block ?_ | refine .inBlock ?_ | refine .yes rfl ?_ | refine .no rfl ?_ | refine .exit rfl ?_)
    refine RunsE.region ?_
    refine OpsE.ev (Ev.move rfl) rfl ?_
    refine OpsE.ev (Ev.lss (r := false) rfl rfl (decide_eq_false (by omega))) rfl ?_
    refine OpsE.nil ?_
    repeat (first | refine .seq ?_ | refine .skip ?_ | refine .block ?_ | refine .inBlock ?_ | refine .yes rfl ?_ | refine .no rfl ?_ | refine .exit rfl ?_)
    refine RunsE.region ?_
    refine OpsE.ev (Ev.assign rfl) rfl ?_
    refine OpsE.nil ?_
    repeat (first | refine .seq ?_ | refine .skip ?_ | refine .block ?_ | refine .inBlock ?_ | refine .yes rfl ?_ | refine .no rfl ?_ | refine .exit rfl ?_)
    refine RunsE.region ?_
    refine OpsE.ev (Ev.move rfl) rfl ?_
    refine OpsE.ex (Ex.call rfl Tryz.call69 (rest_spec b v line k 0 hk hl w F hv H)) rfl ?_; (try clear H); rintro u w ⟨hu, H⟩; obtain ⟨a1, c1, rfl, hc1⟩ := hu.len
    refine OpsE.ev (Ev.assign rfl) rfl ?_
    refine OpsE.nil ?_
    repeat (first | refine .seq ?_ | refine .skip ?_ | refine .block ?_ | refine .inBlock ?_ | refine .yes rfl ?_ | refine .no rfl ?_ | refine .exit rfl ?_)
    refine RunsE.region ?_
    refine OpsE.ev (Ev.assign rfl) rfl ?_
    refine OpsE.nil ?_
    have hll : (line.drop k).length = line.length - k := List.length_drop
    have hdk : ∀ j, line.drop (k + j) = (line.drop k).drop j := fun j => by rw [List.drop_drop]
    obtain ⟨B0, hB0⟩ : ∃ B0, B0 = line.drop k := ⟨_, rfl⟩
    rw [← hB0] at hll hu hdk ⊢
    have hbad : ∀ {n : Nat}, n ≠ 0 → scanM most [] B0 = (n, [], []) → bytesM most (B0, 0) = ((B0, n), []) := fun {n} hn h => by
      unfold bytesM
      simp only [ne_eq, not_true, if_false, h, hn, not_false_eq_true, if_true]
    repeat refine RunsE.seq ?_
    refine RunsE.join (fun _ : Unit => [(0, .pointer (some ⟨b, 0, none⟩))]) (fun _ w => scanM most [] B0 = (12, [], []) ∧ SL w ((b, rdO v k 0) :: F)) (fun next => ?_) ?_
    · refine RunsE.block ?_
      refine RunsE.loop (fun s : Nat × Value × List UInt8 => [(0, .pointer (some ⟨b, 0, none⟩)), (1, .int .i64 (most : Int)), (5, s.2.1), (6, .slice a1 B0.length c1), (7, .int .i64 (s.1 : Int))])
        (fun s w => s.1 ≤ B0.length ∧ s.2.2.length ≤ most ∧ scanM most s.2.2 (B0.drop s.1) = scanM most [] B0 ∧ ∃ B, Slc gB 1 5 s.2.1 s.2.2 B ∧ SL w (B ++ (b, rdO v k 0) :: F)) (fun s => B0.length - s.1)
        (0, .slice none 0 0, []) ⟨rfl, rfl, rfl, rfl, rfl, trivial⟩ ⟨by omega, by simp, rfl, [], .nil, H⟩ ?_
      clear H
      rintro ⟨i, vo, out⟩ w ⟨hi, ho, hsc, B, hs, H⟩ nextL
      simp only at hi ho hsc hs
      obtain ⟨ao, co, rfl, hco⟩ := hs.leCap
      by_cases h1 : i = B0.length
      ·
        repeat (first | refine .seq ?_ | refine .skip ?_ | refine .block ?_ | refine .inBlock ?_ | refine .yes rfl ?_ | refine .no rfl ?_ | refine .exit rfl ?_)
        refine RunsE.region ?_
        refine OpsE.ev (Ev.move rfl) rfl ?_
        refine OpsE.ev (Ev.move rfl) rfl ?_
        refine OpsE.ev (Ev.lenSl (d := 5) rfl rfl (by kernel_rfl)) rfl ?_
        refine OpsE.ev (Ev.lss (r := false) rfl rfl (decide_eq_false (by simp only; omega))) rfl ?_
        refine OpsE.nil ?_
        repeat refine RunsE.seq ?_
        refine RunsE.no rfl ?_
        refine RunsE.exit rfl ?_
        rw [h1, List.drop_length] at hsc
        exact next () _ _ ⟨hsc.symm, H.dropL⟩ ⟨rfl, trivial⟩
      clear next
      have hil : i < B0.length := by omega
      obtain ⟨bx, ox, rfl, hr1⟩ := hu.atI hil
      have hdr := drop_consD (d := 0) hil
      obtain ⟨c, hc⟩ : ∃ c, c = B0.getD i 0 := ⟨_, rfl⟩
      rw [← hc] at hr1 hdr
      have hcb := c.toNat_lt
      rw [hdr] at hsc
      repeat (first | refine .seq ?_ | refine .skip ?_ | refine .block ?_ | refine .inBlock ?_ | refine .yes rfl ?_ | refine .no rfl ?_ | refine .exit rfl ?_)
      refine RunsE.region ?_
      refine OpsE.ev (Ev.move rfl) rfl ?_
      refine OpsE.ev (Ev.move rfl) rfl ?_
      refine OpsE.ev (Ev.lenSl (d := 5) rfl rfl (by kernel_rfl)) rfl ?_
      refine OpsE.ev (Ev.lss (r := true) rfl rfl (decide_eq_true (by simp only; omega))) rfl ?_
      refine OpsE.nil ?_
      repeat (first | refine .seq ?_ | refine .skip ?_ | refine .block ?_ | refine .inBlock ?_ | refine .yes rfl ?_ | refine .no rfl ?_ | refine .exit rfl ?_)
      repeat (first | refine .seq ?_ | refine .skip ?_ | refine .block ?_ | refine .inBlock ?_ | refine .yes rfl ?_ | refine .no rfl ?_ | refine .exit rfl ?_)
      refine RunsE.region ?_
      refine OpsE.ev (Ev.move rfl) rfl ?_
      refine OpsE.ev (Ev.move rfl) rfl ?_
      refine OpsE.ev (Ev.iaSl (n := 5) (sz := 1) (m := i) (o := ox + i) rfl rfl rfl (by kernel_rfl) hil (by rw [Nat.mul_one])) rfl ?_
      refine OpsE.ev (Ev.load (v := BV c) H rfl (by kernel_rfl) (hr1.tail.right)) rfl ?_
      refine OpsE.ev (Ev.assign rfl) rfl ?_
      refine OpsE.nil ?_
      repeat (first | refine .seq ?_ | refine .skip ?_ | refine .block ?_ | refine .inBlock ?_ | refine .yes rfl ?_ | refine .no rfl ?_ | refine .exit rfl ?_)
      refine RunsE.region ?_
      refine OpsE.ev (Ev.move rfl) rfl ?_
      refine OpsE.ev (Ev.eql (r := decide (c = 0)) rfl rfl (eq0 _)) rfl ?_
      refine OpsE.nil ?_
      repeat refine RunsE.seq ?_
      refine RunsE.join (fun i' : Nat => [(0, .pointer (some ⟨b, 0, none⟩)), (1, .int .i64 (most : Int)), (5, .slice ao out.length co), (6, .slice (some ⟨bx, ox, none⟩) B0.length c1), (7, .int .i64 (i' : Int)), (8, BV c)])
        (fun i' w => i' < B0.length ∧ i ≤ i' ∧ (scanM most [] B0 = if out.length = most then (2, [], []) else scanM most (out ++ [c]) (B0.drop (i' + 1))) ∧ SL w (B ++ (b, rdO v k 0) :: F)) (fun next => ?_) ?_
      · by_cases h2 : c = 0
        · subst h2
          repeat refine RunsE.seq ?_
          refine RunsE.yes rfl ?_
          repeat (first | refine .seq ?_ | refine .skip ?_ | refine .block ?_ | refine .inBlock ?_ | refine .yes rfl ?_ | refine .no rfl ?_ | refine .exit rfl ?_)
          refine RunsE.region ?_
          refine OpsE.ev (Ev.move rfl) rfl ?_
          refine OpsE.ev (Ev.add rfl rfl) rfl ?_
          refine OpsE.ev (Ev.assign rfl) rfl ?_
          refine OpsE.nil ?_
          by_cases h3 : i + 1 = B0.length
          · have e1 : B0.drop (i + 1) = [] := by rw [h3, List.drop_length]
            rw [e1, scanM_end] at hsc
            repeat (first | refine .seq ?_ | refine .skip ?_ | refine .block ?_ | refine .inBlock ?_ | refine .yes rfl ?_ | refine .no rfl ?_ | refine .exit rfl ?_)
            refine RunsE.region ?_
            refine OpsE.ev (Ev.move rfl) rfl ?_
            refine OpsE.ev (Ev.move rfl) rfl ?_
            refine OpsE.ev (Ev.lenSl (d := 5) rfl rfl (by kernel_rfl)) rfl ?_
            refine OpsE.ev (Ev.eql (r := true) rfl rfl (beq_iff_eq.2 (by simp only; omega))) rfl ?_
            refine OpsE.ev (Ev.assign rfl) rfl ?_
            refine OpsE.nil ?_
            repeat (first | refine .seq ?_ | refine .skip ?_ | refine .block ?_ | refine .inBlock ?_ | refine .yes rfl ?_ | refine .no rfl ?_ | refine .exit rfl ?_)
            repeat (first | refine .seq ?_ | refine .skip ?_ | refine .block ?_ | refine .inBlock ?_ | refine .yes rfl ?_ | refine .no rfl ?_ | refine .exit rfl ?_)
            refine RunsE.region ?_
            refine OpsE.ev (Ev.move rfl) rfl ?_
            refine OpsE.ev (Ev.makeInterface (d := (.int .i64)) rfl (by kernel_rfl) rfl) rfl ?_
            refine OpsE.ex (Ex.call rfl Tryz.call70 (fail_spec b v k 12 w F H.dropL)) rfl ?_; (try clear H); rintro _ w ⟨rfl, H⟩
            refine OpsE.nil ?_
            repeat (first | refine .seq ?_ | refine .skip ?_ | refine .block ?_ | refine .inBlock ?_ | refine .yes rfl ?_ | refine .no rfl ?_ | refine .exit rfl ?_)
            refine RunsE.region ?_
            refine OpsE.ev (Ev.assign rfl) rfl ?_
            refine OpsE.nil ?_
            repeat (first | refine .seq ?_ | refine .skip ?_ | refine .block ?_ | refine .inBlock ?_ | refine .yes rfl ?_ | refine .no rfl ?_ | refine .exit rfl ?_)
            refine RunsE.ret1 Tryz.func71 rfl rfl ⟨k, [], hk, ?_, ?_, ?_⟩
            · rw [hbad (by decide) hsc.symm, hB0]
            · rw [hbad (by decide) hsc.symm]; exact .nil
            · rw [hbad (by decide) hsc.symm]; exact H
          have hil1 : i + 1 < B0.length := by omega
          obtain ⟨bx2, ox2, ee, hr2⟩ := hu.atI hil1
          cases ee
          have hdr2 := drop_consD (d := 0) hil1
          obtain ⟨d, hd⟩ : ∃ d, d = B0.getD (i + 1) 0 := ⟨_, rfl⟩
          rw [← hd] at hr2 hdr2
          have hdb := d.toNat_lt
          rw [hdr2] at hsc
          repeat (first | refine .seq ?_ | refine .skip ?_ | refine .block ?_ | refine .inBlock ?_ | refine .yes rfl ?_ | refine .no rfl ?_ | refine .exit rfl ?_)
          refine RunsE.region ?_
          refine OpsE.ev (Ev.move rfl) rfl ?_
          refine OpsE.ev (Ev.move rfl) rfl ?_
          refine OpsE.ev (Ev.lenSl (d := 5) rfl rfl (by kernel_rfl)) rfl ?_
          refine OpsE.ev (Ev.eql (r := false) rfl rfl (beq_eq_false_iff_ne.2 (by simp only; omega))) rfl ?_
          refine OpsE.ev (Ev.assign rfl) rfl ?_
          refine OpsE.nil ?_
          repeat (first | refine .seq ?_ | refine .skip ?_ | refine .block ?_ | refine .inBlock ?_ | refine .yes rfl ?_ | refine .no rfl ?_ | refine .exit rfl ?_)
          repeat (first | refine .seq ?_ | refine .skip ?_ | refine .block ?_ | refine .inBlock ?_ | refine .yes rfl ?_ | refine .no rfl ?_ | refine .exit rfl ?_)
          refine RunsE.region ?_
          refine OpsE.ev (Ev.move rfl) rfl ?_
          refine OpsE.ev (Ev.move rfl) rfl ?_
          refine OpsE.ev (Ev.iaSl (n := 5) (sz := 1) (m := i + 1) (o := ox + (i + 1)) rfl rfl (by simp only; omega) (by kernel_rfl) hil1 (by rw [Nat.mul_one])) rfl ?_
          refine OpsE.ev (Ev.load (v := BV d) H rfl (by kernel_rfl) (hr2.tail.right)) rfl ?_
          refine OpsE.ev (Ev.eql (r := decide (d = 0)) rfl rfl (eq0 _)) rfl ?_
          refine OpsE.ev (Ev.assign rfl) rfl ?_
          refine OpsE.nil ?_
          by_cases h4 : d = 0
          · subst h4
            rw [scanM_00] at hsc
            repeat refine RunsE.seq ?_
            refine RunsE.yes rfl ?_
            replace H := H.unmid
            repeat (first | refine .seq ?_ | refine .skip ?_ | refine .block ?_ | refine .inBlock ?_ | refine .yes rfl ?_ | refine .no rfl ?_ | refine .exit rfl ?_)
            refine RunsE.region ?_
            refine OpsE.ev (Ev.move rfl) rfl ?_
            refine OpsE.ev (Ev.nilCheck rfl) rfl ?_
            refine OpsE.ev (Ev.fieldAddr (o := 1) rfl (by kernel_rfl)) rfl ?_
            refine OpsE.ev (Ev.load H rfl (by kernel_rfl) (by first | exact Rd.mk m0 rfl | exact Rd.mk m1 rfl | exact Rd.mk m2 rfl | exact Rd.mk m3 rfl | assumption)) rfl ?_
            refine OpsE.ev (Ev.move rfl) rfl ?_
            refine OpsE.ev (Ev.add (c := ((i + 2 : Nat) : Int)) rfl rfl (by simp only; rw [qi64 (by omega) (by omega)]; omega)) rfl ?_
            refine OpsE.ev (Ev.add (c := ((k + (i + 2) : Nat) : Int)) rfl rfl (by rw [qi64 (by omega) (by omega)]; omega)) rfl ?_
            refine OpsE.ev (Ev.nilCheck rfl) rfl ?_
            refine OpsE.ev (Ev.fieldAddr (o := 1) rfl (by kernel_rfl)) rfl ?_
            refine OpsE.exn (Ex.store1 H rfl rfl (by kernel_rfl) rfl u0 (by simp) (Thaw.zero _ _) rfl) ?_; (try clear H); intro _ w H
            refine OpsE.nil ?_
            repeat (first | refine .seq ?_ | refine .skip ?_ | refine .block ?_ | refine .inBlock ?_ | refine .yes rfl ?_ | refine .no rfl ?_ | refine .exit rfl ?_)
            refine RunsE.region ?_
            refine OpsE.ev (Ev.move rfl) rfl ?_
            refine OpsE.ev (Ev.assign rfl) rfl ?_
            refine OpsE.nil ?_
            repeat (first | refine .seq ?_ | refine .skip ?_ | refine .block ?_ | refine .inBlock ?_ | refine .yes rfl ?_ | refine .no rfl ?_ | refine .exit rfl ?_)
            have e1 : bytesM most (B0, 0) = ((B0.drop (i + 1 + 1), 0), out) := by
              unfold bytesM
              simp only [ne_eq, not_true, if_false, ← hsc]
            rw [e1]
            exact RunsE.ret1 Tryz.func71 rfl rfl ⟨k + (i + 2), B, by omega, hdk _, hs, H.mid⟩
          repeat refine RunsE.seq ?_
          refine RunsE.no (by rw [decide_eq_false h4]; rfl) ?_
          repeat (first | refine .seq ?_ | refine .skip ?_ | refine .block ?_ | refine .inBlock ?_ | refine .yes rfl ?_ | refine .no rfl ?_ | refine .exit rfl ?_)
          refine RunsE.region ?_
          refine OpsE.ev (Ev.move rfl) rfl ?_
          refine OpsE.ev (Ev.move rfl) rfl ?_
          refine OpsE.ev (Ev.iaSl (n := 5) (sz := 1) (m := i + 1) (o := ox + (i + 1)) rfl rfl (by simp only; omega) (by kernel_rfl) hil1 (by rw [Nat.mul_one])) rfl ?_
          refine OpsE.ev (Ev.load (v := BV d) H rfl (by kernel_rfl) (hr2.tail.right)) rfl ?_
          refine OpsE.ev (Ev.neq (r := decide (d ≠ 255)) rfl rfl (ne255 d)) rfl ?_
          refine OpsE.ev (Ev.assign rfl) rfl ?_
          refine OpsE.nil ?_
          by_cases h5 : d = 255
          · subst h5
            rw [scanM_0f] at hsc
            repeat refine RunsE.seq ?_
            refine RunsE.no rfl ?_
            refine RunsE.skip ?_
            refine RunsE.inBlock ?_
            exact next (i + 1) _ _ ⟨hil1, by omega, hsc.symm, H⟩ ⟨rfl, rfl, rfl, rfl, congrArg (fun z => some (Value.int .i64 z)) (by simp only; omega), rfl, trivial⟩
          · rw [scanM_03 h4 h5] at hsc
            repeat refine RunsE.seq ?_
            refine RunsE.yes (by rw [decide_eq_true h5]; rfl) ?_
            repeat (first | refine .seq ?_ | refine .skip ?_ | refine .block ?_ | refine .inBlock ?_ | refine .yes rfl ?_ | refine .no rfl ?_ | refine .exit rfl ?_)
            refine RunsE.region ?_
            refine OpsE.ev (Ev.move rfl) rfl ?_
            refine OpsE.ev (Ev.makeInterface (d := (.int .i64)) rfl (by kernel_rfl) rfl) rfl ?_
            refine OpsE.ex (Ex.call rfl Tryz.call70 (fail_spec b v k 3 w F H.dropL)) rfl ?_; (try clear H); rintro _ w ⟨rfl, H⟩
            refine OpsE.nil ?_
            repeat (first | refine .seq ?_ | refine .skip ?_ | refine .block ?_ | refine .inBlock ?_ | refine .yes rfl ?_ | refine .no rfl ?_ | refine .exit rfl ?_)
            refine RunsE.region ?_
            refine OpsE.ev (Ev.assign rfl) rfl ?_
            refine OpsE.nil ?_
            repeat (first | refine .seq ?_ | refine .skip ?_ | refine .block ?_ | refine .inBlock ?_ | refine .yes rfl ?_ | refine .no rfl ?_ | refine .exit rfl ?_)
            refine RunsE.ret1 Tryz.func71 rfl rfl ⟨k, [], hk, ?_, ?_, ?_⟩
            · rw [hbad (by decide) hsc.symm, hB0]
            · rw [hbad (by decide) hsc.symm]; exact .nil
            · rw [hbad (by decide) hsc.symm]; exact H
        · rw [scanM_c h2] at hsc
          repeat refine RunsE.seq ?_
          refine RunsE.no (by rw [decide_eq_false h2]; rfl) ?_
          refine RunsE.skip ?_
          exact next i _ _ ⟨hil, by omega, hsc.symm, H⟩ ⟨rfl, rfl, rfl, rfl, rfl, rfl, trivial⟩
      clear H hsc
      rintro i' w ⟨hi', hii, hsc, H⟩
      by_cases h6 : out.length = most
      · rw [if_pos h6] at hsc
        repeat (first | refine .seq ?_ | refine .skip ?_ | refine .block ?_ | refine .inBlock ?_ | refine .yes rfl ?_ | refine .no rfl ?_ | refine .exit rfl ?_)
        refine RunsE.region ?_
        refine OpsE.ev (Ev.move rfl) rfl ?_
        refine OpsE.ev (Ev.lenSl (d := 5) rfl rfl (by kernel_rfl)) rfl ?_
        refine OpsE.ev (Ev.move rfl) rfl ?_
        refine OpsE.ev (Ev.eql (r := true) rfl rfl (beq_iff_eq.2 (by omega))) rfl ?_
        refine OpsE.nil ?_
        repeat (first | refine .seq ?_ | refine .skip ?_ | refine .block ?_ | refine .inBlock ?_ | refine .yes rfl ?_ | refine .no rfl ?_ | refine .exit rfl ?_)
        repeat (first | refine .seq ?_ | refine .skip ?_ | refine .block ?_ | refine .inBlock ?_ | refine .yes rfl ?_ | refine .no rfl ?_ | refine .exit rfl ?_)
        refine RunsE.region ?_
        refine OpsE.ev (Ev.move rfl) rfl ?_
        refine OpsE.ev (Ev.makeInterface (d := (.int .i64)) rfl (by kernel_rfl) rfl) rfl ?_
        refine OpsE.ex (Ex.call rfl Tryz.call70 (fail_spec b v k 2 w F H.dropL)) rfl ?_; (try clear H); rintro _ w ⟨rfl, H⟩
        refine OpsE.nil ?_
        repeat (first | refine .seq ?_ | refine .skip ?_ | refine .block ?_ | refine .inBlock ?_ | refine .yes rfl ?_ | refine .no rfl ?_ | refine .exit rfl ?_)
        refine RunsE.region ?_
        refine OpsE.ev (Ev.assign rfl) rfl ?_
        refine OpsE.nil ?_
        repeat (first | refine .seq ?_ | refine .skip ?_ | refine .block ?_ | refine .inBlock ?_ | refine .yes rfl ?_ | refine .no rfl ?_ | refine .exit rfl ?_)
        refine RunsE.ret1 Tryz.func71 rfl rfl ⟨k, [], hk, ?_, ?_, ?_⟩
        · rw [hbad (by decide) hsc, hB0]
        · rw [hbad (by decide) hsc]; exact .nil
        · rw [hbad (by decide) hsc]; exact H
      · rw [if_neg h6] at hsc
        repeat (first | refine .seq ?_ | refine .skip ?_ | refine .block ?_ | refine .inBlock ?_ | refine .yes rfl ?_ | refine .no rfl ?_ | refine .exit rfl ?_)
        refine RunsE.region ?_
        refine OpsE.ev (Ev.move rfl) rfl ?_
        refine OpsE.ev (Ev.lenSl (d := 5) rfl rfl (by kernel_rfl)) rfl ?_
        refine OpsE.ev (Ev.move rfl) rfl ?_
        refine OpsE.ev (Ev.eql (r := false) rfl rfl (beq_eq_false_iff_ne.2 (by omega))) rfl ?_
        refine OpsE.nil ?_
        repeat (first | refine .seq ?_ | refine .skip ?_ | refine .block ?_ | refine .inBlock ?_ | refine .yes rfl ?_ | refine .no rfl ?_ | refine .exit rfl ?_)
        refine RunsE.region ?_
        refine OpsE.ev (Ev.move rfl) rfl ?_
        refine OpsE.ev (Ev.move rfl) rfl ?_
        refine OpsE.ex (Ex.buildSl (T := 5) (zv := .int .u8 0) H rfl (by kernel_rfl) (by kernel_rfl) (by simp [Value.oneCell']) rfl (by omega) (by omega)) rfl ?_; (try clear H); rintro _ w ⟨b74, rfl, H⟩
        refine OpsE.ex (Ex.append (g := gB) (by_ := 1) (zv := .int .u8 0) (ys := [c]) H.drop rfl rfl hs (Src.row0 H m0 rfl) (fun _ => rfl) (by simp [Value.oneCell']) (by kernel_rfl) (by kernel_rfl) (by kernel_rfl) (by kernel_rfl) rfl (by simp; omega) (by simp; omega)) rfl ?_; (try clear H); rintro v' w ⟨B, hs, H⟩
        refine OpsE.ev (Ev.assign rfl) rfl ?_
        refine OpsE.nil ?_
        repeat (first | refine .seq ?_ | refine .skip ?_ | refine .block ?_ | refine .inBlock ?_ | refine .yes rfl ?_ | refine .no rfl ?_ | refine .exit rfl ?_)
        refine RunsE.region ?_
        refine OpsE.ev (Ev.move rfl) rfl ?_
        refine OpsE.ev (Ev.add rfl rfl) rfl ?_
        refine OpsE.ev (Ev.assign rfl) rfl ?_
        refine OpsE.nil ?_
        exact nextL (i' + 1, v', out ++ [c]) _ _ (by simp only; omega) ⟨by simp only; omega, by simp; omega, hsc.symm, B, hs, H⟩ ⟨rfl, rfl, rfl, rfl, rfl, trivial⟩
    · clear H
      rintro _ w ⟨hsc, H⟩
      repeat (first | refine .seq ?_ | refine .skip ?_ | refine .block ?_ | refine .inBlock ?_ | refine .yes rfl ?_ | refine .no rfl ?_ | refine .exit rfl ?_)
      refine RunsE.region ?_
      refine OpsE.ev (Ev.move rfl) rfl ?_
      refine OpsE.ev (Ev.makeInterface (d := (.int .i64)) rfl (by kernel_rfl) rfl) rfl ?_
      refine OpsE.ex (Ex.call rfl Tryz.call70 (fail_spec b v k 12 w F H)) rfl ?_; (try clear H); rintro _ w ⟨rfl, H⟩
      refine OpsE.nil ?_
      repeat (first | refine .seq ?_ | refine .skip ?_ | refine .block ?_ | refine .inBlock ?_ | refine .yes rfl ?_ | refine .no rfl ?_ | refine .exit rfl ?_)
      refine RunsE.region ?_
      refine OpsE.ev (Ev.assign rfl) rfl ?_
      refine OpsE.nil ?_
      repeat (first | refine .seq ?_ | refine .skip ?_ | refine .block ?_ | refine .inBlock ?_ | refine .yes rfl ?_ | refine .no rfl ?_ | refine .exit rfl ?_)
      refine RunsE.ret1 Tryz.func71 rfl rfl ⟨k, [], hk, ?_, ?_, ?_⟩
      · rw [hbad (by decide) hsc, hB0]
      · rw [hbad (by decide) hsc]; exact .nil
      · rw [hbad (by decide) hsc]; exact H
  · repeat refine RunsE.seq ?_
    refine RunsE.yes (by rw [decide_eq_true (by simpa using h0)]; rfl) ?_
    repeat (first | refine .seq ?_ | refine .skip ?_ | refine .block ?_ | refine .inBlock ?_ | refine .yes rfl ?_ | refine .no rfl ?_ | refine .exit rfl ?_)
    refine RunsE.region ?_
    refine OpsE.ev (Ev.assign rfl) rfl ?_
    refine OpsE.nil ?_
    repeat (first | refine .seq ?_ | refine .skip ?_ | refine .block ?_ | refine .inBlock ?_ | refine .yes rfl ?_ | refine .no rfl ?_ | refine .exit rfl ?_)
    have e1 : bytesM most (line.drop k, e) = ((line.drop k, e), []) := by simp [bytesM, h0]
    rw [e1]
    exact RunsE.ret1 Tryz.func71 rfl rfl ⟨k, [], hk, rfl, .nil, H⟩

end Go.Proofs.YtflfaiakenahlaaGreatDoor
end

section
/-
  The document's layer 1, walked: what it lays.
-/
namespace Go.Proofs.YtflfaiakenahlaaGreatDoor.V
theorem modU (n : Nat) (h : n < 256) : IntKind.u8.wrap ((n : Nat) : Int) = ((UInt8.ofNat n).toNat : Int) := by
  rw [qu8 (by omega) (by omega), UInt8.toNat_ofNat']
  congr 1
  omega
end Go.Proofs.YtflfaiakenahlaaGreatDoor.V
namespace Go.Proofs.YtflfaiakenahlaaGreatDoor
open Go.Proofs.YtflfaiakenahlaaGreatDoor.V

theorem rown_spec [Strm] (bs : List UInt8) (v : Value) (hl : bs.length ≤ 1000000000) (w : World) (F : List (Nat × Obj)) (hv : Inp F v bs) (H : SL w F) :
    Does Tryz.prog 93 #[v] w fun r w' => ∃ B, Slc gB 1 5 r bs B ∧ SL w' (B ++ F) := by
  obtain ⟨a, c, rfl, hc⟩ := hv.len
  refine Does.intro (args := [_]) (e := [(0, _)]) Tryz.func93 rfl Tryz.ntmps93 rfl rfl ?_
  repeat (first | refine .seq ?_ | refine .skip ?_ | refine .block ?_ | refine .inBlock ?_ | refine .yes rfl ?_ | refine .no rfl ?_ | refine .exit rfl ?_)
  repeat (first | refine .seq ?_ | refine .skip ?_ | refine .block ?_ | refine .inBlock ?_ | refine .yes rfl ?_ | refine .no rfl ?_ | refine .exit rfl ?_)
  refine RunsE.region ?_
  refine OpsE.ev (Ev.assign rfl) rfl ?_
  refine OpsE.nil ?_
  repeat (first | refine .seq ?_ | refine .skip ?_ | refine .block ?_ | refine .inBlock ?_ | refine .yes rfl ?_ | refine .no rfl ?_ | refine .exit rfl ?_)
  refine RunsE.region ?_
  refine OpsE.ev (Ev.assign rfl) rfl ?_
  refine OpsE.nil ?_
  repeat (first | refine .seq ?_ | refine .skip ?_ | refine .block ?_ | refine .inBlock ?_ | refine .yes rfl ?_ | refine .no rfl ?_ | refine .exit rfl ?_)
  refine RunsE.region ?_
  refine OpsE.ev (Ev.move rfl) rfl ?_
  refine OpsE.ev (Ev.move rfl) rfl ?_
  refine OpsE.ex (Ex.append (T := 5) (g := gB) (by_ := 1) (zv := .int .u8 0) (xs := []) (ys := bs) (B := []) H rfl rfl .nil (hv.src H) (fun _ => rfl) (by simp [Value.oneCell']) (by kernel_rfl) (by kernel_rfl) (by kernel_rfl) (by kernel_rfl) rfl (by simp only [List.length_nil]; omega) (by simp only [List.length_nil]; omega)) rfl ?_; (try clear H); rintro v' w ⟨B, hs, H⟩
  refine OpsE.ev (Ev.assign rfl) rfl ?_
  refine OpsE.nil ?_
  repeat (first | refine .seq ?_ | refine .skip ?_ | refine .block ?_ | refine .inBlock ?_ | refine .yes rfl ?_ | refine .no rfl ?_ | refine .exit rfl ?_)
  exact RunsE.ret1 Tryz.func93 rfl rfl ⟨B, hs, H⟩

theorem digits_spec [Strm] (n : Nat) (hn : n < 256) (w : World) (F : List (Nat × Obj)) (H : SL w F) :
    Does Tryz.prog 92 #[.int .u64 (n : Int)] w fun r w' => ∃ B, Slc gB 1 5 r (digU n) B ∧ SL w' (B ++ F) := by
  refine Does.intro (args := [_]) (e := [(0, _)]) Tryz.func92 rfl Tryz.ntmps92 rfl rfl ?_
  repeat (first | refine .seq ?_ | refine .skip ?_ | refine .block ?_ | refine .inBlock ?_ | refine .yes rfl ?_ | refine .no rfl ?_ | refine .exit rfl ?_)
  repeat (first | refine .seq ?_ | refine .skip ?_ | refine .block ?_ | refine .inBlock ?_ | refine .yes rfl ?_ | refine .no rfl ?_ | refine .exit rfl ?_)
  refine RunsE.region ?_
  refine OpsE.ev (Ev.assign rfl) rfl ?_
  refine OpsE.nil ?_
  repeat (first | refine .seq ?_ | refine .skip ?_ | refine .block ?_ | refine .inBlock ?_ | refine .yes rfl ?_ | refine .no rfl ?_ | refine .exit rfl ?_)
  refine RunsE.region ?_
  refine OpsE.ev (Ev.assign rfl) rfl ?_
  refine OpsE.nil ?_
  repeat refine RunsE.seq ?_
  refine RunsE.join (fun v : Value => [(3, v)]) (fun v w => ∃ B', Slc gB 1 5 v (digU n) B' ∧ SL w (B' ++ F)) (fun next => ?_) ?_
  · refine RunsE.block ?_
    refine RunsE.loop (fun s : Value × Nat => [(0, .int .u64 ((if s.2 = 1 then n else 0 : Nat) : Int)), (3, s.1)])
      (fun s w => s.2 ≤ 1 ∧ (s.2 = 1 → n ≠ 0) ∧ ∃ B', Slc gB 1 5 s.1 (if s.2 = 1 then [] else digU n) B' ∧ SL w (B' ++ F)) (fun s => s.2) (.slice none 0 0, if n = 0 then 0 else 1)
      ⟨congrArg (fun z : Nat => some (Value.int .u64 (z : Int))) (by dsimp only; by_cases h0 : n = 0 <;> simp [h0]), rfl, trivial⟩ ⟨by dsimp only; split <;> omega, fun h h0 => by simp [h0] at h, [], ?_, H⟩ ?_
    · by_cases h0 : n = 0
      · simp [h0, digU]; exact .nil
      · simp [h0]; exact .nil
    clear H
    rintro ⟨v, m⟩ w ⟨h1, h2, B, hs, H⟩ nextL
    simp only at h1 h2 hs
    by_cases hm : m = 0
    · subst hm
      repeat (first | refine .seq ?_ | refine .skip ?_ | refine .block ?_ | refine .inBlock ?_ | refine .yes rfl ?_ | refine .no rfl ?_ | refine .exit rfl ?_)
      refine RunsE.region ?_
      refine OpsE.ev (Ev.move rfl) rfl ?_
      refine OpsE.ev (Ev.gtr (r := false) rfl rfl (decide_eq_false (by simp))) rfl ?_
      refine OpsE.nil ?_
      repeat refine RunsE.seq ?_
      refine RunsE.no rfl ?_
      refine RunsE.exit rfl ?_
      exact next v _ _ ⟨B, by simpa using hs, H⟩ ⟨rfl, trivial⟩
    · clear next
      obtain rfl : m = 1 := by omega
      have h0 := h2 rfl
      rw [if_pos rfl] at hs
      have hin : Inp (B ++ F) v [] := hs.inp
      obtain ⟨av, cv, rfl, _⟩ := hin.len
      repeat (first | refine .seq ?_ | refine .skip ?_ | refine .block ?_ | refine .inBlock ?_ | refine .yes rfl ?_ | refine .no rfl ?_ | refine .exit rfl ?_)
      refine RunsE.region ?_
      refine OpsE.ev (Ev.move rfl) rfl ?_
      refine OpsE.ev (Ev.gtr (r := true) rfl rfl (decide_eq_true (by simp; omega))) rfl ?_
      refine OpsE.nil ?_
      repeat (first | refine .seq ?_ | refine .skip ?_ | refine .block ?_ | refine .inBlock ?_ | refine .yes rfl ?_ | refine .no rfl ?_ | refine .exit rfl ?_)
      repeat (first | refine .seq ?_ | refine .skip ?_ | refine .block ?_ | refine .inBlock ?_ | refine .yes rfl ?_ | refine .no rfl ?_ | refine .exit rfl ?_)
      refine RunsE.region ?_
      refine OpsE.ev (Ev.assign rfl) rfl ?_
      refine OpsE.nil ?_
      repeat (first | refine .seq ?_ | refine .skip ?_ | refine .block ?_ | refine .inBlock ?_ | refine .yes rfl ?_ | refine .no rfl ?_ | refine .exit rfl ?_)
      refine RunsE.region ?_
      refine OpsE.ev (Ev.move rfl) rfl ?_
      refine OpsE.ev (Ev.move rfl) rfl ?_
      refine OpsE.ev (Ev.rem (c := (n : Int)) rfl rfl (by omega) (by simp only [if_true]; rw [show ((n : Int)).tmod 256 = ((n % 256 : Nat) : Int) from qrem n 256]; congr 1; omega)) rfl ?_
      refine OpsE.ev (Ev.conv (c := ((UInt8.ofNat n).toNat : Int)) (k' := .u8) rfl (by kernel_rfl) (by kernel_rfl) (modU n hn)) rfl ?_
      refine OpsE.ex (Ex.buildSl (T := 5) (zv := .int .u8 0) H rfl (by kernel_rfl) (by kernel_rfl) (by simp [Value.oneCell']) rfl (by omega) (by omega)) rfl ?_; (try clear H); rintro _ w ⟨b11, rfl, H⟩
      refine OpsE.ex (Ex.append (T := 5) (g := gB) (by_ := 1) (zv := .int .u8 0) (xs := []) (ys := [UInt8.ofNat n]) (B := []) H.drop rfl rfl .nil (Src.row0 H m0 rfl) (fun _ => rfl) (by simp [Value.oneCell']) (by kernel_rfl) (by kernel_rfl) (by kernel_rfl) (by kernel_rfl) rfl (by simp) (by simp)) rfl ?_; (try clear H); rintro v1 w ⟨B1, hs1, H⟩; rw [List.nil_append] at hs1
      refine OpsE.ev (Ev.move rfl) rfl ?_
      refine OpsE.ex (Ex.append (T := 5) (g := gB) (by_ := 1) (zv := .int .u8 0) (ys := []) H rfl rfl hs1 ((hin.right).src H) (fun _ => rfl) (by simp [Value.oneCell']) (by kernel_rfl) (by kernel_rfl) (by kernel_rfl) (by kernel_rfl) rfl (by simp) (by simp)) rfl ?_; (try clear H); rintro v2 w ⟨B2, hs2, H⟩
      refine OpsE.ev (Ev.assign rfl) rfl ?_
      refine OpsE.nil ?_
      repeat (first | refine .seq ?_ | refine .skip ?_ | refine .block ?_ | refine .inBlock ?_ | refine .yes rfl ?_ | refine .no rfl ?_ | refine .exit rfl ?_)
      refine RunsE.region ?_
      refine OpsE.ev (Ev.move rfl) rfl ?_
      refine OpsE.ev (Ev.quo (c := 0) rfl rfl (by omega) (by simp only [if_true]; rw [show ((n : Int)).tdiv 256 = ((n / 256 : Nat) : Int) from qquo n 256, show n / 256 = 0 by omega]; decide)) rfl ?_
      refine OpsE.ev (Ev.assign rfl) rfl ?_
      refine OpsE.nil ?_
      refine RunsE.inBlock ?_
      refine nextL (v2, 0) _ _ (by simp) ⟨by simp, by simp, B2, ?_, H.dropIn⟩ ⟨rfl, rfl, trivial⟩
      simp only [digU, h0, if_false]
      exact hs2
  · clear H
    rintro v w ⟨B, hs, H⟩
    repeat (first | refine .seq ?_ | refine .skip ?_ | refine .block ?_ | refine .inBlock ?_ | refine .yes rfl ?_ | refine .no rfl ?_ | refine .exit rfl ?_)
    refine RunsE.region ?_
    refine OpsE.ev (Ev.move rfl) rfl ?_
    refine OpsE.ev (Ev.assign rfl) rfl ?_
    refine OpsE.nil ?_
    repeat (first | refine .seq ?_ | refine .skip ?_ | refine .block ?_ | refine .inBlock ?_ | refine .yes rfl ?_ | refine .no rfl ?_ | refine .exit rfl ?_)
    exact RunsE.ret1 Tryz.func92 rfl rfl ⟨B, hs, H⟩

theorem refuint_spec [Strm] (n : Nat) (hn : n < 256) (bs : List UInt8) (v : Value) (hl : bs.length ≤ 1000000) (w : World) (F : List (Nat × Obj)) (hv : Inp F v bs) (H : SL w F) :
    Does Tryz.prog 61 #[v, .int .u64 (n : Int)] w fun r w' => ∃ B, Slc gB 1 5 r (bs ++ encU n) B ∧ SL w' (B ++ F) := by
  obtain ⟨a, c, rfl, hc⟩ := hv.len
  have hdl : (digU n).length ≤ 1 := by unfold digU; split <;> simp
  refine Does.intro (args := [_, _]) (e := [(0, _), (1, _)]) Tryz.func61 rfl Tryz.ntmps61 rfl rfl ?_
  repeat (first | refine .seq ?_ | refine .skip ?_ | refine .block ?_ | refine .inBlock ?_ | refine .yes rfl ?_ | refine .no rfl ?_ | refine .exit rfl ?_)
  repeat (first | refine .seq ?_ | refine .skip ?_ | refine .block ?_ | refine .inBlock ?_ | refine .yes rfl ?_ | refine .no rfl ?_ | refine .exit rfl ?_)
  refine RunsE.region ?_
  refine OpsE.ev (Ev.assign rfl) rfl ?_
  refine OpsE.nil ?_
  repeat (first | refine .seq ?_ | refine .skip ?_ | refine .block ?_ | refine .inBlock ?_ | refine .yes rfl ?_ | refine .no rfl ?_ | refine .exit rfl ?_)
  refine RunsE.region ?_
  refine OpsE.ev (Ev.move rfl) rfl ?_
  refine OpsE.ex (Ex.call rfl Tryz.call92 (digits_spec n hn w _ H)) rfl ?_; (try clear H); rintro vd w ⟨Bd, hd, H⟩; obtain ⟨ad, cd, rfl, hcd⟩ := hd.leCap
  refine OpsE.ev (Ev.assign rfl) rfl ?_
  refine OpsE.nil ?_
  repeat (first | refine .seq ?_ | refine .skip ?_ | refine .block ?_ | refine .inBlock ?_ | refine .yes rfl ?_ | refine .no rfl ?_ | refine .exit rfl ?_)
  refine RunsE.region ?_
  refine OpsE.ev (Ev.move rfl) rfl ?_
  refine OpsE.ex (Ex.call rfl Tryz.call93 (rown_spec bs _ (by omega) w _ hv.right H)) rfl ?_; (try clear H); rintro vo w ⟨Bo, ho, H⟩
  refine OpsE.ev (Ev.move rfl) rfl ?_
  refine OpsE.ev (Ev.lenSl (d := 5) rfl rfl (by kernel_rfl)) rfl ?_
  refine OpsE.ev (Ev.conv (c := ((UInt8.ofNat (digU n).length).toNat : Int)) (k' := .u8) rfl (by kernel_rfl) (by kernel_rfl) (modU _ (by omega))) rfl ?_
  refine OpsE.ex (Ex.buildSl (T := 5) (zv := .int .u8 0) H rfl (by kernel_rfl) (by kernel_rfl) (by simp [Value.oneCell']) rfl (by omega) (by omega)) rfl ?_; (try clear H); rintro _ w ⟨b13, rfl, H⟩
  refine OpsE.ex (Ex.append (T := 5) (g := gB) (by_ := 1) (zv := .int .u8 0) (ys := [UInt8.ofNat (digU n).length]) H.drop rfl rfl ho (Src.row0 H m0 rfl) (fun _ => rfl) (by simp [Value.oneCell']) (by kernel_rfl) (by kernel_rfl) (by kernel_rfl) (by kernel_rfl) rfl (by simp; omega) (by simp; omega)) rfl ?_; (try clear H); rintro v1 w ⟨B1, hs1, H⟩
  refine OpsE.ev (Ev.move rfl) rfl ?_
  refine OpsE.ex (Ex.append (T := 5) (g := gB) (by_ := 1) (zv := .int .u8 0) (ys := digU n) H rfl rfl hs1 ((hd.inp.right).src H) (fun _ => rfl) (by simp [Value.oneCell']) (by kernel_rfl) (by kernel_rfl) (by kernel_rfl) (by kernel_rfl) rfl (by simp; omega) (by simp; omega)) rfl ?_; (try clear H); rintro v2 w ⟨B2, hs2, H⟩
  refine OpsE.ev (Ev.assign rfl) rfl ?_
  refine OpsE.nil ?_
  repeat (first | refine .seq ?_ | refine .skip ?_ | refine .block ?_ | refine .inBlock ?_ | refine .yes rfl ?_ | refine .no rfl ?_ | refine .exit rfl ?_)
  refine RunsE.ret1 Tryz.func61 rfl rfl ⟨B2, ?_, H.dropIn⟩
  have e1 : bs ++ [UInt8.ofNat (digU n).length] ++ digU n = bs ++ encU n := by
    unfold digU encU
    by_cases h0 : n = 0
    · simp [h0]
    · simp [h0]
  rw [← e1]
  exact hs2

set_option maxHeartbeats 1000000 in
theorem refbytes_spec [Strm] (bs xs : List UInt8) (v vx : Value) (hl : bs.length ≤ 1000000) (hx : xs.length ≤ 1000000) (w : World) (F : List (Nat × Obj)) (hv : Inp F v bs) (hvx : Inp F vx xs) (H : SL w F) :
    Does Tryz.prog 62 #[v, vx] w fun r w' => ∃ B, Slc gB 1 5 r (bs ++ encB xs) B ∧ SL w' (B ++ F) := by
  obtain ⟨a, c, rfl, hc⟩ := hv.len
  obtain ⟨ax, cx, rfl, hcx⟩ := hvx.len
  refine Does.intro (args := [_, _]) (e := [(0, _), (1, _)]) Tryz.func62 rfl Tryz.ntmps62 rfl rfl ?_
  repeat (first | refine .seq ?_ | refine .skip ?_ | refine .block ?_ | refine .inBlock ?_ | refine .yes rfl ?_ | refine .no rfl ?_ | refine .exit rfl ?_)
  repeat (first | refine .seq ?_ | refine .skip ?_ | refine .block ?_ | refine .inBlock ?_ | refine .yes rfl ?_ | refine .no rfl ?_ | refine .exit rfl ?_)
  refine RunsE.region ?_
  refine OpsE.ev (Ev.assign rfl) rfl ?_
  refine OpsE.nil ?_
  repeat (first | refine .seq ?_ | refine .skip ?_ | refine .block ?_ | refine .inBlock ?_ | refine .yes rfl ?_ | refine .no rfl ?_ | refine .exit rfl ?_)
  refine RunsE.region ?_
  refine OpsE.ev (Ev.move rfl) rfl ?_
  refine OpsE.ex (Ex.call rfl Tryz.call93 (rown_spec bs _ (by omega) w _ hv H)) rfl ?_; (try clear H); rintro vo w ⟨Bo, ho, H⟩
  refine OpsE.ev (Ev.assign rfl) rfl ?_
  refine OpsE.nil ?_
  repeat (first | refine .seq ?_ | refine .skip ?_ | refine .block ?_ | refine .inBlock ?_ | refine .yes rfl ?_ | refine .no rfl ?_ | refine .exit rfl ?_)
  refine RunsE.region ?_
  refine OpsE.ev (Ev.assign rfl) rfl ?_
  refine OpsE.nil ?_
  repeat refine RunsE.seq ?_
  refine RunsE.join (fun v : Value => [(5, v)]) (fun v w => ∃ B, Slc gB 1 5 v (bs ++ xs.flatMap encC) B ∧ SL w (B ++ F)) (fun next => ?_) ?_
  · refine RunsE.block ?_
    refine RunsE.loop (fun s : Nat × Value => [(1, .slice ax xs.length cx), (5, s.2), (6, .int .i64 (s.1 : Int))])
      (fun s w => s.1 ≤ xs.length ∧ ∃ B, Slc gB 1 5 s.2 (bs ++ (xs.take s.1).flatMap encC) B ∧ SL w (B ++ F)) (fun s => xs.length - s.1) (0, vo) ⟨rfl, rfl, rfl, trivial⟩ ⟨by simp, Bo, by simpa using ho, H⟩ ?_
    clear H ho
    rintro ⟨i, vo⟩ w ⟨hi, B, hs, H⟩ nextL
    simp only at hi hs
    by_cases h1 : i = xs.length
    ·
      repeat (first | refine .seq ?_ | refine .skip ?_ | refine .block ?_ | refine .inBlock ?_ | refine .yes rfl ?_ | refine .no rfl ?_ | refine .exit rfl ?_)
      refine RunsE.region ?_
      refine OpsE.ev (Ev.move rfl) rfl ?_
      refine OpsE.ev (Ev.move rfl) rfl ?_
      refine OpsE.ev (Ev.lenSl (d := 5) rfl rfl (by kernel_rfl)) rfl ?_
      refine OpsE.ev (Ev.lss (r := false) rfl rfl (decide_eq_false (by simp only; omega))) rfl ?_
      refine OpsE.nil ?_
      repeat refine RunsE.seq ?_
      refine RunsE.no rfl ?_
      refine RunsE.exit rfl ?_
      rw [h1, List.take_length] at hs
      exact next vo _ _ ⟨B, hs, H⟩ ⟨rfl, trivial⟩
    · clear next
      obtain ⟨bx, ox, rfl, hrd⟩ := hvx.atI (i := i) (by omega)
      obtain ⟨c, hc⟩ : ∃ c, c = xs.getD i 0 := ⟨_, rfl⟩
      rw [← hc] at hrd
      have htk : ((xs.take i).flatMap encC).length ≤ 2 * i := by
        have h2 := (encB_len (xs.take i)).2
        unfold encB at h2
        rw [List.length_append, List.length_take] at h2
        simp only [List.length_cons, List.length_nil] at h2
        omega
      have hsucc : (xs.take (i + 1)).flatMap encC = (xs.take i).flatMap encC ++ encC c := by
        rw [take_succD (d := 0) (by omega), List.flatMap_append, ← hc]
        simp
      repeat (first | refine .seq ?_ | refine .skip ?_ | refine .block ?_ | refine .inBlock ?_ | refine .yes rfl ?_ | refine .no rfl ?_ | refine .exit rfl ?_)
      refine RunsE.region ?_
      refine OpsE.ev (Ev.move rfl) rfl ?_
      refine OpsE.ev (Ev.move rfl) rfl ?_
      refine OpsE.ev (Ev.lenSl (d := 5) rfl rfl (by kernel_rfl)) rfl ?_
      refine OpsE.ev (Ev.lss (r := true) rfl rfl (decide_eq_true (by simp only; omega))) rfl ?_
      refine OpsE.nil ?_
      repeat (first | refine .seq ?_ | refine .skip ?_ | refine .block ?_ | refine .inBlock ?_ | refine .yes rfl ?_ | refine .no rfl ?_ | refine .exit rfl ?_)
      repeat (first | refine .seq ?_ | refine .skip ?_ | refine .block ?_ | refine .inBlock ?_ | refine .yes rfl ?_ | refine .no rfl ?_ | refine .exit rfl ?_)
      refine RunsE.region ?_
      refine OpsE.ev (Ev.move rfl) rfl ?_
      refine OpsE.ev (Ev.move rfl) rfl ?_
      refine OpsE.ev (Ev.move rfl) rfl ?_
      refine OpsE.ev (Ev.iaSl (n := 5) (sz := 1) (m := i) (o := ox + i) rfl rfl rfl (by kernel_rfl) (by omega) (by rw [Nat.mul_one])) rfl ?_
      refine OpsE.ev (Ev.load (v := BV c) H rfl (by kernel_rfl) (hrd.right)) rfl ?_
      refine OpsE.ex (Ex.buildSl (T := 5) (zv := .int .u8 0) H rfl (by kernel_rfl) (by kernel_rfl) (by simp [Value.oneCell']) rfl (by omega) (by omega)) rfl ?_; (try clear H); rintro _ w ⟨b20, rfl, H⟩
      refine OpsE.ex (Ex.append (T := 5) (g := gB) (by_ := 1) (zv := .int .u8 0) (ys := [c]) H.drop rfl rfl hs (Src.row0 H m0 rfl) (fun _ => rfl) (by simp [Value.oneCell']) (by kernel_rfl) (by kernel_rfl) (by kernel_rfl) (by kernel_rfl) rfl (by simp only [List.length_append, List.length_cons, List.length_nil]; omega) (by simp only [List.length_append, List.length_cons, List.length_nil]; omega)) rfl ?_; (try clear H); rintro v' w ⟨B, hs, H⟩
      refine OpsE.ev (Ev.assign rfl) rfl ?_
      refine OpsE.nil ?_
      repeat (first | refine .seq ?_ | refine .skip ?_ | refine .block ?_ | refine .inBlock ?_ | refine .yes rfl ?_ | refine .no rfl ?_ | refine .exit rfl ?_)
      refine RunsE.region ?_
      refine OpsE.ev (Ev.move rfl) rfl ?_
      refine OpsE.ev (Ev.move rfl) rfl ?_
      refine OpsE.ev (Ev.iaSl (n := 5) (sz := 1) (m := i) (o := ox + i) rfl rfl rfl (by kernel_rfl) (by omega) (by rw [Nat.mul_one])) rfl ?_
      refine OpsE.ev (Ev.load (v := BV c) H rfl (by kernel_rfl) (hrd.right)) rfl ?_
      refine OpsE.ev (Ev.eql (r := decide (c = 0)) rfl rfl (eq0 _)) rfl ?_
      refine OpsE.nil ?_
      by_cases h0 : c = 0
      · subst h0
        repeat refine RunsE.seq ?_
        refine RunsE.yes rfl ?_
        repeat (first | refine .seq ?_ | refine .skip ?_ | refine .block ?_ | refine .inBlock ?_ | refine .yes rfl ?_ | refine .no rfl ?_ | refine .exit rfl ?_)
        refine RunsE.region ?_
        refine OpsE.ev (Ev.move rfl) rfl ?_
        refine OpsE.ex (Ex.buildSl (T := 5) (zv := .int .u8 0) H rfl (by kernel_rfl) (by kernel_rfl) (by simp [Value.oneCell']) rfl (by omega) (by omega)) rfl ?_; (try clear H); rintro _ w ⟨b28, rfl, H⟩
        refine OpsE.ex (Ex.append (T := 5) (g := gB) (by_ := 1) (zv := .int .u8 0) (ys := [255]) H.drop rfl rfl hs (Src.row0 H m0 rfl) (fun _ => rfl) (by simp [Value.oneCell']) (by kernel_rfl) (by kernel_rfl) (by kernel_rfl) (by kernel_rfl) rfl (by simp only [List.length_append, List.length_cons, List.length_nil]; omega) (by simp only [List.length_append, List.length_cons, List.length_nil]; omega)) rfl ?_; (try clear H); rintro v' w ⟨B, hs, H⟩
        refine OpsE.ev (Ev.assign rfl) rfl ?_
        refine OpsE.nil ?_
        repeat (first | refine .seq ?_ | refine .skip ?_ | refine .block ?_ | refine .inBlock ?_ | refine .yes rfl ?_ | refine .no rfl ?_ | refine .exit rfl ?_)
        refine RunsE.region ?_
        refine OpsE.ev (Ev.move rfl) rfl ?_
        refine OpsE.ev (Ev.add rfl rfl) rfl ?_
        refine OpsE.ev (Ev.assign rfl) rfl ?_
        refine OpsE.nil ?_
        refine nextL (i + 1, _) _ _ (by simp only; omega) ⟨by simp only; omega, B, ?_, H⟩ ⟨rfl, rfl, rfl, trivial⟩
        simp only
        rw [hsucc]
        simpa [encC] using hs
      · repeat refine RunsE.seq ?_
        refine RunsE.no (by rw [decide_eq_false h0]; rfl) ?_
        repeat (first | refine .seq ?_ | refine .skip ?_ | refine .block ?_ | refine .inBlock ?_ | refine .yes rfl ?_ | refine .no rfl ?_ | refine .exit rfl ?_)
        refine RunsE.region ?_
        refine OpsE.ev (Ev.move rfl) rfl ?_
        refine OpsE.ev (Ev.add rfl rfl) rfl ?_
        refine OpsE.ev (Ev.assign rfl) rfl ?_
        refine OpsE.nil ?_
        refine nextL (i + 1, _) _ _ (by simp only; omega) ⟨by simp only; omega, B, ?_, H⟩ ⟨rfl, rfl, rfl, trivial⟩
        simp only
        rw [hsucc]
        simpa [encC, h0] using hs
  · clear H ho
    rintro v w ⟨B, hs, H⟩
    have htk : (xs.flatMap encC).length ≤ 2 * xs.length := by
      have h2 := (encB_len xs).2
      unfold encB at h2
      rw [List.length_append] at h2
      simp only [List.length_cons, List.length_nil] at h2
      omega
    repeat (first | refine .seq ?_ | refine .skip ?_ | refine .block ?_ | refine .inBlock ?_ | refine .yes rfl ?_ | refine .no rfl ?_ | refine .exit rfl ?_)
    refine RunsE.region ?_
    refine OpsE.ev (Ev.move rfl) rfl ?_
    refine OpsE.ex (Ex.buildSl (T := 5) (zv := .int .u8 0) H rfl (by kernel_rfl) (by kernel_rfl) (by simp [Value.oneCell']) rfl (by omega) (by omega)) rfl ?_; (try clear H); rintro _ w ⟨b31, rfl, H⟩
    refine OpsE.ex (Ex.append (T := 5) (g := gB) (by_ := 1) (zv := .int .u8 0) (ys := [0, 0]) H.drop rfl rfl hs (Src.row0 H m0 rfl) (fun _ => rfl) (by simp [Value.oneCell']) (by kernel_rfl) (by kernel_rfl) (by kernel_rfl) (by kernel_rfl) rfl (by simp only [List.length_append, List.length_cons, List.length_nil]; omega) (by simp only [List.length_append, List.length_cons, List.length_nil]; omega)) rfl ?_; (try clear H); rintro v' w ⟨B, hs, H⟩
    refine OpsE.ev (Ev.assign rfl) rfl ?_
    refine OpsE.nil ?_
    repeat (first | refine .seq ?_ | refine .skip ?_ | refine .block ?_ | refine .inBlock ?_ | refine .yes rfl ?_ | refine .no rfl ?_ | refine .exit rfl ?_)
    refine RunsE.ret1 Tryz.func62 rfl rfl ⟨B, ?_, H⟩
    unfold encB
    rw [← List.append_assoc]
    exact hs

end Go.Proofs.YtflfaiakenahlaaGreatDoor
end

section
/-
  The document's layer 1, walked: what it takes off.
-/
namespace Go.Proofs.YtflfaiakenahlaaGreatDoor
open Go.Proofs.YtflfaiakenahlaaGreatDoor.V

/-- The document's reader: what is left, the first error. -/
abbrev rrL (v : Value) (e : Nat) : List Value := [v, .int .i64 (e : Int)]
abbrev rrV (v : Value) (e : Nat) : Value := .agg (rrL v e).toArray

theorem rfail_spec [Strm] (v : Value) (e n : Nat) (w : World) (F : List (Nat × Obj)) (H : SL w F) (hv : ∃ a n c, v = .slice a n c) :
    Does Tryz.prog 76 #[rrV v e, .int .i64 (n : Int)] w fun r w' => r = rrV v (if e = 0 then n else e) ∧ SL w' F := by
  obtain ⟨a, ln, c, rfl⟩ := hv
  refine Does.intro (args := [_, _]) (e := [(0, _), (1, _)]) Tryz.func76 rfl Tryz.ntmps76 rfl rfl ?_
  repeat (first | refine .seq ?_ | refine .skip ?_ | refine .block ?_ | refine .inBlock ?_ | refine .yes rfl ?_ | refine .no rfl ?_ | refine .exit rfl ?_)
  repeat (first | refine .seq ?_ | refine .skip ?_ | refine .block ?_ | refine .inBlock ?_ | refine .yes rfl ?_ | refine .no rfl ?_ | refine .exit rfl ?_)
  refine RunsE.region ?_
  refine OpsE.ex (Ex.box H rfl) rfl ?_; (try clear H); rintro _ w ⟨b2, rfl, H⟩; simp only [Value.cells] at H
  refine OpsE.ex (Ex.alloc (zv := .agg #[.slice none 0 0, .int .i64 0]) H (by kernel_rfl)) rfl ?_; (try clear H); rintro _ w ⟨b4, rfl, H⟩; simp only [Value.cells] at H
  refine OpsE.nil ?_
  by_cases h0 : e = 0
  · subst h0
    repeat (first | refine .seq ?_ | refine .skip ?_ | refine .block ?_ | refine .inBlock ?_ | refine .yes rfl ?_ | refine .no rfl ?_ | refine .exit rfl ?_)
    refine RunsE.region ?_
    refine OpsE.ev (Ev.fieldAddr (o := 1) rfl (by kernel_rfl)) rfl ?_
    refine OpsE.ev (Ev.load H rfl (by kernel_rfl) (by first | exact Rd.mk m0 rfl | exact Rd.mk m1 rfl | exact Rd.mk m2 rfl | exact Rd.mk m3 rfl | assumption)) rfl ?_
    refine OpsE.ev (Ev.eql (r := true) rfl rfl rfl) rfl ?_
    refine OpsE.nil ?_
    repeat (first | refine .seq ?_ | refine .skip ?_ | refine .block ?_ | refine .inBlock ?_ | refine .yes rfl ?_ | refine .no rfl ?_ | refine .exit rfl ?_)
    repeat (first | refine .seq ?_ | refine .skip ?_ | refine .block ?_ | refine .inBlock ?_ | refine .yes rfl ?_ | refine .no rfl ?_ | refine .exit rfl ?_)
    refine RunsE.region ?_
    refine OpsE.ev (Ev.move rfl) rfl ?_
    refine OpsE.ev (Ev.fieldAddr (o := 1) rfl (by kernel_rfl)) rfl ?_
    refine OpsE.exn (Ex.store1 H rfl rfl (by kernel_rfl) rfl u1 (by simp) (Thaw.zero _ _) rfl) ?_; (try clear H); intro _ w H
    refine OpsE.nil ?_
    repeat (first | refine .seq ?_ | refine .skip ?_ | refine .block ?_ | refine .inBlock ?_ | refine .yes rfl ?_ | refine .no rfl ?_ | refine .exit rfl ?_)
    refine RunsE.region ?_
    refine OpsE.ev (Ev.loadBlk (n := 2) (vs := rrL (.slice a ln c) n) H rfl (by kernel_rfl) rfl m1) rfl ?_
    refine OpsE.exn (Ex.storeBlk (n := 2) H rfl rfl (by kernel_rfl) (by first | rfl | simp) (by simp [Value.oneCell']) u0 (by first | rfl | simp) (Thaw.zero _ _)) ?_; (try clear H); intro _ w H
    refine OpsE.nil ?_
    repeat (first | refine .seq ?_ | refine .skip ?_ | refine .block ?_ | refine .inBlock ?_ | refine .yes rfl ?_ | refine .no rfl ?_ | refine .exit rfl ?_)
    exact RunsE.retBlk (vs := rrL (.slice a ln c) n) H Tryz.func76 rfl rfl (by kernel_rfl) rfl m0 ⟨rfl, H.drop.drop⟩
  ·
    repeat (first | refine .seq ?_ | refine .skip ?_ | refine .block ?_ | refine .inBlock ?_ | refine .yes rfl ?_ | refine .no rfl ?_ | refine .exit rfl ?_)
    refine RunsE.region ?_
    refine OpsE.ev (Ev.fieldAddr (o := 1) rfl (by kernel_rfl)) rfl ?_
    refine OpsE.ev (Ev.load H rfl (by kernel_rfl) (by first | exact Rd.mk m0 rfl | exact Rd.mk m1 rfl | exact Rd.mk m2 rfl | exact Rd.mk m3 rfl | assumption)) rfl ?_
    refine OpsE.ev (Ev.eql (r := false) rfl rfl (beq_eq_false_iff_ne.2 (by omega))) rfl ?_
    refine OpsE.nil ?_
    repeat (first | refine .seq ?_ | refine .skip ?_ | refine .block ?_ | refine .inBlock ?_ | refine .yes rfl ?_ | refine .no rfl ?_ | refine .exit rfl ?_)
    repeat (first | refine .seq ?_ | refine .skip ?_ | refine .block ?_ | refine .inBlock ?_ | refine .yes rfl ?_ | refine .no rfl ?_ | refine .exit rfl ?_)
    refine RunsE.region ?_
    refine OpsE.ev (Ev.loadBlk (n := 2) (vs := rrL (.slice a ln c) e) H rfl (by kernel_rfl) rfl m1) rfl ?_
    refine OpsE.exn (Ex.storeBlk (n := 2) H rfl rfl (by kernel_rfl) (by first | rfl | simp) (by simp [Value.oneCell']) u0 (by first | rfl | simp) (Thaw.zero _ _)) ?_; (try clear H); intro _ w H
    refine OpsE.nil ?_
    repeat (first | refine .seq ?_ | refine .skip ?_ | refine .block ?_ | refine .inBlock ?_ | refine .yes rfl ?_ | refine .no rfl ?_ | refine .exit rfl ?_)
    exact RunsE.retBlk (vs := rrL (.slice a ln c) e) H Tryz.func76 rfl rfl (by kernel_rfl) rfl m0 ⟨by rw [if_neg h0], H.drop.drop⟩

set_option maxHeartbeats 1000000 in
theorem rnumber_spec [Strm] (v : Value) (B : List UInt8) (c : UInt8) (r : List UInt8) (many : Nat) (hB : B = c :: r) (hm : many ≤ 8) (hl : B.length ≤ 1000000) (w : World) (F : List (Nat × Obj)) (hv : Inp F v B) (H : SL w F) :
    Does Tryz.prog 77 #[v, .int .i64 (many : Int), .bool false] w fun u w' => u = .tuple #[.int .u64 ((lowM r many).2 : Int), .int .i64 ((lowM r many).1 : Int)] ∧ SL w' F := by
  obtain ⟨a, cc, rfl, hcc⟩ := hv.len
  have hBl : B.length = r.length + 1 := by rw [hB]; rfl
  refine Does.intro (args := [_, _, _]) (e := [(0, _), (1, _), (2, _)]) Tryz.func77 rfl Tryz.ntmps77 rfl rfl ?_
  repeat (first | refine .seq ?_ | refine .skip ?_ | refine .block ?_ | refine .inBlock ?_ | refine .yes rfl ?_ | refine .no rfl ?_ | refine .exit rfl ?_)
  repeat (first | refine .seq ?_ | refine .skip ?_ | refine .block ?_ | refine .inBlock ?_ | refine .yes rfl ?_ | refine .no rfl ?_ | refine .exit rfl ?_)
  refine RunsE.region ?_
  refine OpsE.ev (Ev.assign rfl) rfl ?_
  refine OpsE.ev (Ev.assign rfl) rfl ?_
  refine OpsE.nil ?_
  by_cases h1 : r.length < many
  ·
    repeat (first | refine .seq ?_ | refine .skip ?_ | refine .block ?_ | refine .inBlock ?_ | refine .yes rfl ?_ | refine .no rfl ?_ | refine .exit rfl ?_)
    refine RunsE.region ?_
    refine OpsE.ev (Ev.move rfl) rfl ?_
    refine OpsE.ev (Ev.lenSl (d := 5) rfl rfl (by kernel_rfl)) rfl ?_
    refine OpsE.ev (Ev.move rfl) rfl ?_
    refine OpsE.ev (Ev.add rfl rfl) rfl ?_
    refine OpsE.ev (Ev.lss (r := true) rfl rfl (decide_eq_true (by omega))) rfl ?_
    refine OpsE.nil ?_
    repeat (first | refine .seq ?_ | refine .skip ?_ | refine .block ?_ | refine .inBlock ?_ | refine .yes rfl ?_ | refine .no rfl ?_ | refine .exit rfl ?_)
    repeat (first | refine .seq ?_ | refine .skip ?_ | refine .block ?_ | refine .inBlock ?_ | refine .yes rfl ?_ | refine .no rfl ?_ | refine .exit rfl ?_)
    refine RunsE.region ?_
    refine OpsE.ev (Ev.assign rfl) rfl ?_
    refine OpsE.ev (Ev.assign rfl) rfl ?_
    refine OpsE.nil ?_
    repeat (first | refine .seq ?_ | refine .skip ?_ | refine .block ?_ | refine .inBlock ?_ | refine .yes rfl ?_ | refine .no rfl ?_ | refine .exit rfl ?_)
    exact RunsE.ret2 Tryz.func77 rfl rfl rfl ⟨by rw [lowM, if_pos h1]; rfl, H⟩
  repeat (first | refine .seq ?_ | refine .skip ?_ | refine .block ?_ | refine .inBlock ?_ | refine .yes rfl ?_ | refine .no rfl ?_ | refine .exit rfl ?_)
  refine RunsE.region ?_
  refine OpsE.ev (Ev.move rfl) rfl ?_
  refine OpsE.ev (Ev.lenSl (d := 5) rfl rfl (by kernel_rfl)) rfl ?_
  refine OpsE.ev (Ev.move rfl) rfl ?_
  refine OpsE.ev (Ev.add rfl rfl) rfl ?_
  refine OpsE.ev (Ev.lss (r := false) rfl rfl (decide_eq_false (by omega))) rfl ?_
  refine OpsE.nil ?_
  repeat (first | refine .seq ?_ | refine .skip ?_ | refine .block ?_ | refine .inBlock ?_ | refine .yes rfl ?_ | refine .no rfl ?_ | refine .exit rfl ?_)
  repeat (first | refine .seq ?_ | refine .skip ?_ | refine .block ?_ | refine .inBlock ?_ | refine .yes rfl ?_ | refine .no rfl ?_ | refine .exit rfl ?_)
  refine RunsE.region ?_
  refine OpsE.ev (Ev.assign rfl) rfl ?_
  refine OpsE.nil ?_
  repeat (first | refine .seq ?_ | refine .skip ?_ | refine .block ?_ | refine .inBlock ?_ | refine .yes rfl ?_ | refine .no rfl ?_ | refine .exit rfl ?_)
  refine RunsE.region ?_
  refine OpsE.ev (Ev.assign rfl) rfl ?_
  refine OpsE.nil ?_
  repeat refine RunsE.seq ?_
  refine RunsE.join (fun _ : Unit => [(8, .int .u64 (be (r.take many) : Int))]) (fun _ w => (lowM r many = (0, be (r.take many))) ∧ SL w F) (fun next => ?_) ?_
  · refine RunsE.block ?_
    refine RunsE.loop (fun i : Nat => [(0, .slice a B.length cc), (1, .int .i64 (many : Int)), (2, .bool false), (8, .int .u64 (be (r.take i) : Int)), (9, .int .i64 ((i + 1 : Nat) : Int))])
      (fun i w => i ≤ many ∧ (0 < i → ¬ (0 < many ∧ r.head? = some 0)) ∧ SL w F) (fun i => many - i) 0 ⟨rfl, rfl, rfl, rfl, rfl, trivial⟩ ⟨by omega, fun h => absurd h (by omega), H⟩ ?_
    clear H
    rintro i w ⟨hi, hh, H⟩ nextL
    by_cases h5 : i = many
    ·
      repeat (first | refine .seq ?_ | refine .skip ?_ | refine .block ?_ | refine .inBlock ?_ | refine .yes rfl ?_ | refine .no rfl ?_ | refine .exit rfl ?_)
      refine RunsE.region ?_
      refine OpsE.ev (Ev.move rfl) rfl ?_
      refine OpsE.ev (Ev.move rfl) rfl ?_
      refine OpsE.ev (Ev.leq (r := false) rfl rfl (decide_eq_false (by omega))) rfl ?_
      refine OpsE.nil ?_
      repeat refine RunsE.seq ?_
      refine RunsE.no rfl ?_
      refine RunsE.exit rfl ?_
      refine next () _ _ ⟨?_, H⟩ ⟨by rw [h5]; rfl, trivial⟩
      rw [lowM, if_neg h1, if_neg]
      by_cases h6 : 0 < many
      · exact hh (by omega)
      · exact fun h => h6 h.1
    · clear next
      obtain ⟨bx, ox, rfl, hrd⟩ := hv.atI (i := i + 1) (by omega)
      have hg : B.getD (i + 1) 0 = r.getD i 0 := by rw [hB]; rfl
      rw [hg] at hrd
      have hbe := be_lt (r.take i)
      have hti : (r.take i).length = i := by rw [List.length_take]; omega
      rw [hti] at hbe
      have hbe2 : be (r.take i) < 72057594037927936 := Nat.lt_of_lt_of_le hbe (Nat.le_trans (Nat.pow_le_pow_right (by decide) (by omega : i ≤ 7)) (by decide))
      have hcb := (r.getD i 0).toNat_lt
      have hhead : r.head? = some 0 ↔ r.getD 0 0 = 0 := by
        cases r with
        | nil => simp at h1; omega
        | cons x r => simp
      repeat (first | refine .seq ?_ | refine .skip ?_ | refine .block ?_ | refine .inBlock ?_ | refine .yes rfl ?_ | refine .no rfl ?_ | refine .exit rfl ?_)
      refine RunsE.region ?_
      refine OpsE.ev (Ev.move rfl) rfl ?_
      refine OpsE.ev (Ev.move rfl) rfl ?_
      refine OpsE.ev (Ev.leq (r := true) rfl rfl (decide_eq_true (by omega))) rfl ?_
      refine OpsE.nil ?_
      repeat (first | refine .seq ?_ | refine .skip ?_ | refine .block ?_ | refine .inBlock ?_ | refine .yes rfl ?_ | refine .no rfl ?_ | refine .exit rfl ?_)
      repeat (first | refine .seq ?_ | refine .skip ?_ | refine .block ?_ | refine .inBlock ?_ | refine .yes rfl ?_ | refine .no rfl ?_ | refine .exit rfl ?_)
      refine RunsE.region ?_
      refine OpsE.ev (Ev.move rfl) rfl ?_
      refine OpsE.ev (Ev.move rfl) rfl ?_
      refine OpsE.ev (Ev.iaSl (n := 5) (sz := 1) (m := i + 1) (o := ox + (i + 1)) rfl rfl rfl (by kernel_rfl) (by omega) (by rw [Nat.mul_one])) rfl ?_
      refine OpsE.ev (Ev.load (v := BV (r.getD i 0)) H rfl (by kernel_rfl) hrd) rfl ?_
      refine OpsE.ev (Ev.assign rfl) rfl ?_
      refine OpsE.nil ?_
      repeat (first | refine .seq ?_ | refine .skip ?_ | refine .block ?_ | refine .inBlock ?_ | refine .yes rfl ?_ | refine .no rfl ?_ | refine .exit rfl ?_)
      refine RunsE.region ?_
      refine OpsE.ev (Ev.move rfl) rfl ?_
      refine OpsE.nil ?_
      repeat (first | refine .seq ?_ | refine .skip ?_ | refine .block ?_ | refine .inBlock ?_ | refine .yes rfl ?_ | refine .no rfl ?_ | refine .exit rfl ?_)
      by_cases h6 : i = 0
      · subst h6
        by_cases h7 : r.getD 0 0 = 0
        ·
          repeat (first | refine .seq ?_ | refine .skip ?_ | refine .block ?_ | refine .inBlock ?_ | refine .yes rfl ?_ | refine .no rfl ?_ | refine .exit rfl ?_)
          refine RunsE.region ?_
          refine OpsE.ev (Ev.move rfl) rfl ?_
          refine OpsE.ev (Ev.eql (r := true) rfl rfl rfl) rfl ?_
          refine OpsE.ev (Ev.move rfl) rfl ?_
          first | (refine OpsE.yes rfl rfl ?_; refine OpsE.ev (Ev.move rfl) rfl ?_) | refine OpsE.no rfl rfl rfl ?_ | refine OpsE.off rfl rfl rfl ?_
          first | (refine OpsE.yes rfl rfl ?_; refine OpsE.ev (Ev.eql (r := true) rfl rfl (by rw [h7]; rfl)) rfl ?_) | refine OpsE.no rfl rfl rfl ?_ | refine OpsE.off rfl rfl rfl ?_
          refine OpsE.ev ((by first | exact Ev.pickT rfl rfl | exact Ev.pickF rfl rfl)) rfl ?_
          refine OpsE.nil ?_
          repeat (first | refine .seq ?_ | refine .skip ?_ | refine .block ?_ | refine .inBlock ?_ | refine .yes rfl ?_ | refine .no rfl ?_ | refine .exit rfl ?_)
          repeat (first | refine .seq ?_ | refine .skip ?_ | refine .block ?_ | refine .inBlock ?_ | refine .yes rfl ?_ | refine .no rfl ?_ | refine .exit rfl ?_)
          refine RunsE.region ?_
          refine OpsE.ev (Ev.assign rfl) rfl ?_
          refine OpsE.ev (Ev.assign rfl) rfl ?_
          refine OpsE.nil ?_
          repeat (first | refine .seq ?_ | refine .skip ?_ | refine .block ?_ | refine .inBlock ?_ | refine .yes rfl ?_ | refine .no rfl ?_ | refine .exit rfl ?_)
          exact RunsE.ret2 Tryz.func77 rfl rfl rfl ⟨by rw [lowM, if_neg h1, if_pos ⟨by omega, hhead.2 h7⟩]; rfl, H⟩
        ·
          repeat (first | refine .seq ?_ | refine .skip ?_ | refine .block ?_ | refine .inBlock ?_ | refine .yes rfl ?_ | refine .no rfl ?_ | refine .exit rfl ?_)
          refine RunsE.region ?_
          refine OpsE.ev (Ev.move rfl) rfl ?_
          refine OpsE.ev (Ev.eql (r := true) rfl rfl rfl) rfl ?_
          refine OpsE.ev (Ev.move rfl) rfl ?_
          first | (refine OpsE.yes rfl rfl ?_; refine OpsE.ev (Ev.move rfl) rfl ?_) | refine OpsE.no rfl rfl rfl ?_ | refine OpsE.off rfl rfl rfl ?_
          first | (refine OpsE.yes rfl rfl ?_; refine OpsE.ev (Ev.eql (r := false) rfl rfl (by rw [eq0, decide_eq_false h7])) rfl ?_) | refine OpsE.no rfl rfl rfl ?_ | refine OpsE.off rfl rfl rfl ?_
          refine OpsE.ev ((by first | exact Ev.pickT rfl rfl | exact Ev.pickF rfl rfl)) rfl ?_
          refine OpsE.nil ?_
          repeat (first | refine .seq ?_ | refine .skip ?_ | refine .block ?_ | refine .inBlock ?_ | refine .yes rfl ?_ | refine .no rfl ?_ | refine .exit rfl ?_)
          repeat (first | refine .seq ?_ | refine .skip ?_ | refine .block ?_ | refine .inBlock ?_ | refine .yes rfl ?_ | refine .no rfl ?_ | refine .exit rfl ?_)
          refine RunsE.region ?_
          refine OpsE.ev (Ev.move rfl) rfl ?_
          refine OpsE.ev (Ev.mul (c := ((256 * be (r.take 0) : Nat) : Int)) rfl rfl (by rw [qu64 (by omega) (by omega)]; omega)) rfl ?_
          refine OpsE.ev (Ev.move rfl) rfl ?_
          refine OpsE.ev (Ev.conv (c := ((r.getD 0 0).toNat : Int)) (k' := .u64) rfl (by kernel_rfl) (by kernel_rfl) (qu64 (by omega) (by omega))) rfl ?_
          refine OpsE.ev (Ev.add (c := ((be (r.take 1) : Nat) : Int)) rfl rfl (by rw [take_succD (d := 0) (by omega), be_snoc, qu64 (by omega) (by omega)]; omega)) rfl ?_
          refine OpsE.ev (Ev.assign rfl) rfl ?_
          refine OpsE.nil ?_
          repeat (first | refine .seq ?_ | refine .skip ?_ | refine .block ?_ | refine .inBlock ?_ | refine .yes rfl ?_ | refine .no rfl ?_ | refine .exit rfl ?_)
          refine RunsE.region ?_
          refine OpsE.ev (Ev.move rfl) rfl ?_
          refine OpsE.ev (Ev.add rfl rfl) rfl ?_
          refine OpsE.ev (Ev.assign rfl) rfl ?_
          refine OpsE.nil ?_
          refine nextL 1 _ _ (by omega) ⟨by omega, fun _ h => h7 (hhead.1 h.2), H⟩ ⟨rfl, rfl, rfl, rfl, rfl, trivial⟩
      ·
        repeat (first | refine .seq ?_ | refine .skip ?_ | refine .block ?_ | refine .inBlock ?_ | refine .yes rfl ?_ | refine .no rfl ?_ | refine .exit rfl ?_)
        refine RunsE.region ?_
        refine OpsE.ev (Ev.move rfl) rfl ?_
        refine OpsE.ev (Ev.eql (r := false) rfl rfl (beq_eq_false_iff_ne.2 (by omega))) rfl ?_
        refine OpsE.ev (Ev.move rfl) rfl ?_
        first | (refine OpsE.yes rfl rfl ?_; refine OpsE.ev (Ev.move rfl) rfl ?_) | refine OpsE.no rfl rfl rfl ?_ | refine OpsE.off rfl rfl rfl ?_
        first | (refine OpsE.yes rfl rfl ?_; refine OpsE.ev (Ev.eql rfl rfl) rfl ?_) | refine OpsE.no rfl rfl rfl ?_ | refine OpsE.off rfl rfl rfl ?_
        refine OpsE.ev ((by first | exact Ev.pickT rfl rfl | exact Ev.pickF rfl rfl)) rfl ?_
        refine OpsE.nil ?_
        repeat (first | refine .seq ?_ | refine .skip ?_ | refine .block ?_ | refine .inBlock ?_ | refine .yes rfl ?_ | refine .no rfl ?_ | refine .exit rfl ?_)
        repeat (first | refine .seq ?_ | refine .skip ?_ | refine .block ?_ | refine .inBlock ?_ | refine .yes rfl ?_ | refine .no rfl ?_ | refine .exit rfl ?_)
        refine RunsE.region ?_
        refine OpsE.ev (Ev.move rfl) rfl ?_
        refine OpsE.ev (Ev.mul (c := ((256 * be (r.take i) : Nat) : Int)) rfl rfl (by rw [qu64 (by omega) (by omega)]; omega)) rfl ?_
        refine OpsE.ev (Ev.move rfl) rfl ?_
        refine OpsE.ev (Ev.conv (c := ((r.getD i 0).toNat : Int)) (k' := .u64) rfl (by kernel_rfl) (by kernel_rfl) (qu64 (by omega) (by omega))) rfl ?_
        refine OpsE.ev (Ev.add (c := ((be (r.take (i + 1)) : Nat) : Int)) rfl rfl (by rw [take_succD (d := 0) (by omega), be_snoc, qu64 (by omega) (by omega)]; omega)) rfl ?_
        refine OpsE.ev (Ev.assign rfl) rfl ?_
        refine OpsE.nil ?_
        repeat (first | refine .seq ?_ | refine .skip ?_ | refine .block ?_ | refine .inBlock ?_ | refine .yes rfl ?_ | refine .no rfl ?_ | refine .exit rfl ?_)
        refine RunsE.region ?_
        refine OpsE.ev (Ev.move rfl) rfl ?_
        refine OpsE.ev (Ev.add rfl rfl) rfl ?_
        refine OpsE.ev (Ev.assign rfl) rfl ?_
        refine OpsE.nil ?_
        refine nextL (i + 1) _ _ (by omega) ⟨by omega, fun _ => hh (by omega), H⟩ ⟨rfl, rfl, rfl, rfl, rfl, trivial⟩
  · clear H
    rintro _ w ⟨hlow, H⟩
    repeat (first | refine .seq ?_ | refine .skip ?_ | refine .block ?_ | refine .inBlock ?_ | refine .yes rfl ?_ | refine .no rfl ?_ | refine .exit rfl ?_)
    refine RunsE.region ?_
    refine OpsE.ev (Ev.move rfl) rfl ?_
    refine OpsE.ev (Ev.assign rfl) rfl ?_
    refine OpsE.ev (Ev.assign rfl) rfl ?_
    refine OpsE.nil ?_
    repeat (first | refine .seq ?_ | refine .skip ?_ | refine .block ?_ | refine .inBlock ?_ | refine .yes rfl ?_ | refine .no rfl ?_ | refine .exit rfl ?_)
    exact RunsE.ret2 Tryz.func77 rfl rfl rfl ⟨by rw [hlow]; rfl, H⟩

theorem refdone_spec [Strm] (v : Value) (B : List UInt8) (e : Nat) (w : World) (F : List (Nat × Obj)) (hv : Inp F v B) (H : SL w F) :
    Does Tryz.prog 44 #[rrV v e] w fun r w' => r = .int .i64 (doneM (B, e) : Int) ∧ SL w' F := by
  obtain ⟨a, c, rfl, hc⟩ := hv.len
  refine Does.intro (args := [_]) (e := [(0, _)]) Tryz.func44 rfl Tryz.ntmps44 rfl rfl ?_
  repeat (first | refine .seq ?_ | refine .skip ?_ | refine .block ?_ | refine .inBlock ?_ | refine .yes rfl ?_ | refine .no rfl ?_ | refine .exit rfl ?_)
  repeat (first | refine .seq ?_ | refine .skip ?_ | refine .block ?_ | refine .inBlock ?_ | refine .yes rfl ?_ | refine .no rfl ?_ | refine .exit rfl ?_)
  refine RunsE.region ?_
  refine OpsE.ex (Ex.box H rfl) rfl ?_; (try clear H); rintro _ w ⟨b1, rfl, H⟩; simp only [Value.cells] at H
  refine OpsE.ev (Ev.assign rfl) rfl ?_
  refine OpsE.nil ?_
  by_cases h0 : e = 0
  · subst h0
    by_cases h1 : B = []
    ·
      repeat (first | refine .seq ?_ | refine .skip ?_ | refine .block ?_ | refine .inBlock ?_ | refine .yes rfl ?_ | refine .no rfl ?_ | refine .exit rfl ?_)
      refine RunsE.region ?_
      refine OpsE.ev (Ev.fieldAddr (o := 1) rfl (by kernel_rfl)) rfl ?_
      refine OpsE.ev (Ev.load H rfl (by kernel_rfl) (by first | exact Rd.mk m0 rfl | exact Rd.mk m1 rfl | exact Rd.mk m2 rfl | exact Rd.mk m3 rfl | assumption)) rfl ?_
      refine OpsE.ev (Ev.eql (r := true) rfl rfl rfl) rfl ?_
      refine OpsE.ev (Ev.move rfl) rfl ?_
      first | (refine OpsE.yes rfl rfl ?_; refine OpsE.ev (Ev.fieldAddr (o := 0) rfl (by kernel_rfl)) rfl ?_) | refine OpsE.no rfl rfl rfl ?_ | refine OpsE.off rfl rfl rfl ?_
      first | (refine OpsE.yes rfl rfl ?_; refine OpsE.ev (Ev.load H rfl (by kernel_rfl) (by first | exact Rd.mk m0 rfl | exact Rd.mk m1 rfl | exact Rd.mk m2 rfl | exact Rd.mk m3 rfl | assumption)) rfl ?_) | refine OpsE.no rfl rfl rfl ?_ | refine OpsE.off rfl rfl rfl ?_
      first | (refine OpsE.yes rfl rfl ?_; refine OpsE.ev (Ev.lenSl (d := 5) rfl rfl (by kernel_rfl)) rfl ?_) | refine OpsE.no rfl rfl rfl ?_ | refine OpsE.off rfl rfl rfl ?_
      first | (refine OpsE.yes rfl rfl ?_; refine OpsE.ev (Ev.gtr (r := false) rfl rfl (decide_eq_false (by rw [h1]; simp))) rfl ?_) | refine OpsE.no rfl rfl rfl ?_ | refine OpsE.off rfl rfl rfl ?_
      refine OpsE.ev ((by first | exact Ev.pickT rfl rfl | exact Ev.pickF rfl rfl)) rfl ?_
      refine OpsE.nil ?_
      repeat (first | refine .seq ?_ | refine .skip ?_ | refine .block ?_ | refine .inBlock ?_ | refine .yes rfl ?_ | refine .no rfl ?_ | refine .exit rfl ?_)
      repeat (first | refine .seq ?_ | refine .skip ?_ | refine .block ?_ | refine .inBlock ?_ | refine .yes rfl ?_ | refine .no rfl ?_ | refine .exit rfl ?_)
      refine RunsE.region ?_
      refine OpsE.ev (Ev.fieldAddr (o := 1) rfl (by kernel_rfl)) rfl ?_
      refine OpsE.ev (Ev.load H rfl (by kernel_rfl) (by first | exact Rd.mk m0 rfl | exact Rd.mk m1 rfl | exact Rd.mk m2 rfl | exact Rd.mk m3 rfl | assumption)) rfl ?_
      refine OpsE.ev (Ev.assign rfl) rfl ?_
      refine OpsE.nil ?_
      repeat (first | refine .seq ?_ | refine .skip ?_ | refine .block ?_ | refine .inBlock ?_ | refine .yes rfl ?_ | refine .no rfl ?_ | refine .exit rfl ?_)
      exact RunsE.ret1 Tryz.func44 rfl rfl ⟨by simp [doneM, h1], H.drop⟩
    · have : 0 < B.length := List.length_pos_iff.2 h1
      repeat (first | refine .seq ?_ | refine .skip ?_ | refine .block ?_ | refine .inBlock ?_ | refine .yes rfl ?_ | refine .no rfl ?_ | refine .exit rfl ?_)
      refine RunsE.region ?_
      refine OpsE.ev (Ev.fieldAddr (o := 1) rfl (by kernel_rfl)) rfl ?_
      refine OpsE.ev (Ev.load H rfl (by kernel_rfl) (by first | exact Rd.mk m0 rfl | exact Rd.mk m1 rfl | exact Rd.mk m2 rfl | exact Rd.mk m3 rfl | assumption)) rfl ?_
      refine OpsE.ev (Ev.eql (r := true) rfl rfl rfl) rfl ?_
      refine OpsE.ev (Ev.move rfl) rfl ?_
      first | (refine OpsE.yes rfl rfl ?_; refine OpsE.ev (Ev.fieldAddr (o := 0) rfl (by kernel_rfl)) rfl ?_) | refine OpsE.no rfl rfl rfl ?_ | refine OpsE.off rfl rfl rfl ?_
      first | (refine OpsE.yes rfl rfl ?_; refine OpsE.ev (Ev.load H rfl (by kernel_rfl) (by first | exact Rd.mk m0 rfl | exact Rd.mk m1 rfl | exact Rd.mk m2 rfl | exact Rd.mk m3 rfl | assumption)) rfl ?_) | refine OpsE.no rfl rfl rfl ?_ | refine OpsE.off rfl rfl rfl ?_
      first | (refine OpsE.yes rfl rfl ?_; refine OpsE.ev (Ev.lenSl (d := 5) rfl rfl (by kernel_rfl)) rfl ?_) | refine OpsE.no rfl rfl rfl ?_ | refine OpsE.off rfl rfl rfl ?_
      first | (refine OpsE.yes rfl rfl ?_; refine OpsE.ev (Ev.gtr (r := true) rfl rfl (decide_eq_true (by omega))) rfl ?_) | refine OpsE.no rfl rfl rfl ?_ | refine OpsE.off rfl rfl rfl ?_
      refine OpsE.ev ((by first | exact Ev.pickT rfl rfl | exact Ev.pickF rfl rfl)) rfl ?_
      refine OpsE.nil ?_
      repeat (first | refine .seq ?_ | refine .skip ?_ | refine .block ?_ | refine .inBlock ?_ | refine .yes rfl ?_ | refine .no rfl ?_ | refine .exit rfl ?_)
      repeat (first | refine .seq ?_ | refine .skip ?_ | refine .block ?_ | refine .inBlock ?_ | refine .yes rfl ?_ | refine .no rfl ?_ | refine .exit rfl ?_)
      refine RunsE.region ?_
      refine OpsE.ev (Ev.assign rfl) rfl ?_
      refine OpsE.nil ?_
      repeat (first | refine .seq ?_ | refine .skip ?_ | refine .block ?_ | refine .inBlock ?_ | refine .yes rfl ?_ | refine .no rfl ?_ | refine .exit rfl ?_)
      exact RunsE.ret1 Tryz.func44 rfl rfl ⟨by simp [doneM, h1], H.drop⟩
  ·
    repeat (first | refine .seq ?_ | refine .skip ?_ | refine .block ?_ | refine .inBlock ?_ | refine .yes rfl ?_ | refine .no rfl ?_ | refine .exit rfl ?_)
    refine RunsE.region ?_
    refine OpsE.ev (Ev.fieldAddr (o := 1) rfl (by kernel_rfl)) rfl ?_
    refine OpsE.ev (Ev.load H rfl (by kernel_rfl) (by first | exact Rd.mk m0 rfl | exact Rd.mk m1 rfl | exact Rd.mk m2 rfl | exact Rd.mk m3 rfl | assumption)) rfl ?_
    refine OpsE.ev (Ev.eql (r := false) rfl rfl (beq_eq_false_iff_ne.2 (by omega))) rfl ?_
    refine OpsE.ev (Ev.move rfl) rfl ?_
    first | (refine OpsE.yes rfl rfl ?_; refine OpsE.ev (Ev.fieldAddr (o := 0) rfl (by kernel_rfl)) rfl ?_) | refine OpsE.no rfl rfl rfl ?_ | refine OpsE.off rfl rfl rfl ?_
    first | (refine OpsE.yes rfl rfl ?_; refine OpsE.ev (Ev.load H rfl (by kernel_rfl) (by first | exact Rd.mk m0 rfl | exact Rd.mk m1 rfl | exact Rd.mk m2 rfl | exact Rd.mk m3 rfl | assumption)) rfl ?_) | refine OpsE.no rfl rfl rfl ?_ | refine OpsE.off rfl rfl rfl ?_
    first | (refine OpsE.yes rfl rfl ?_; refine OpsE.ev (Ev.lenSl (d := 5) rfl rfl (by kernel_rfl)) rfl ?_) | refine OpsE.no rfl rfl rfl ?_ | refine OpsE.off rfl rfl rfl ?_
    first | (refine OpsE.yes rfl rfl ?_; refine OpsE.ev (Ev.gtr rfl rfl) rfl ?_) | refine OpsE.no rfl rfl rfl ?_ | refine OpsE.off rfl rfl rfl ?_
    refine OpsE.ev ((by first | exact Ev.pickT rfl rfl | exact Ev.pickF rfl rfl)) rfl ?_
    refine OpsE.nil ?_
    repeat (first | refine .seq ?_ | refine .skip ?_ | refine .block ?_ | refine .inBlock ?_ | refine .yes rfl ?_ | refine .no rfl ?_ | refine .exit rfl ?_)
    repeat (first | refine .seq ?_ | refine .skip ?_ | refine .block ?_ | refine .inBlock ?_ | refine .yes rfl ?_ | refine .no rfl ?_ | refine .exit rfl ?_)
    refine RunsE.region ?_
    refine OpsE.ev (Ev.fieldAddr (o := 1) rfl (by kernel_rfl)) rfl ?_
    refine OpsE.ev (Ev.load H rfl (by kernel_rfl) (by first | exact Rd.mk m0 rfl | exact Rd.mk m1 rfl | exact Rd.mk m2 rfl | exact Rd.mk m3 rfl | assumption)) rfl ?_
    refine OpsE.ev (Ev.assign rfl) rfl ?_
    refine OpsE.nil ?_
    repeat (first | refine .seq ?_ | refine .skip ?_ | refine .block ?_ | refine .inBlock ?_ | refine .yes rfl ?_ | refine .no rfl ?_ | refine .exit rfl ?_)
    exact RunsE.ret1 Tryz.func44 rfl rfl ⟨by simp [doneM, h0], H.drop⟩

set_option maxHeartbeats 1000000 in
theorem refreaduint_spec [Strm] (v : Value) (B : List UInt8) (e most : Nat) (hl : B.length ≤ 1000000) (w : World) (F G : List (Nat × Obj)) (hv : Inp G v B) (hG : ∀ p ∈ G, p ∈ F) (H : SL w F) :
    Does Tryz.prog 42 #[rrV v e, .int .u64 (most : Int)] w fun r w' => ∃ v', r = .tuple #[rrV v' (uintM most (B, e)).1.2, .int .u64 ((uintM most (B, e)).2 : Int)] ∧ Inp G v' (uintM most (B, e)).1.1 ∧ SL w' F := by
  obtain ⟨a, cc, rfl, hcc⟩ := hv.len
  refine Does.intro (args := [_, _]) (e := [(0, _), (1, _)]) Tryz.func42 rfl Tryz.ntmps42 rfl rfl ?_
  repeat (first | refine .seq ?_ | refine .skip ?_ | refine .block ?_ | refine .inBlock ?_ | refine .yes rfl ?_ | refine .no rfl ?_ | refine .exit rfl ?_)
  repeat (first | refine .seq ?_ | refine .skip ?_ | refine .block ?_ | refine .inBlock ?_ | refine .yes rfl ?_ | refine .no rfl ?_ | refine .exit rfl ?_)
  refine RunsE.region ?_
  refine OpsE.ex (Ex.box H rfl) rfl ?_; (try clear H); rintro _ w ⟨b2, rfl, H⟩; simp only [Value.cells] at H
  refine OpsE.ex (Ex.alloc (zv := .agg #[.slice none 0 0, .int .i64 0]) H (by kernel_rfl)) rfl ?_; (try clear H); rintro _ w ⟨b4, rfl, H⟩; simp only [Value.cells] at H
  refine OpsE.ev (Ev.assign rfl) rfl ?_
  refine OpsE.nil ?_
  by_cases h0 : e ≠ 0
  ·
    repeat (first | refine .seq ?_ | refine .skip ?_ | refine .block ?_ | refine .inBlock ?_ | refine .yes rfl ?_ | refine .no rfl ?_ | refine .exit rfl ?_)
    refine RunsE.region ?_
    refine OpsE.ev (Ev.fieldAddr (o := 1) rfl (by kernel_rfl)) rfl ?_
    refine OpsE.ev (Ev.load H rfl (by kernel_rfl) (by first | exact Rd.mk m0 rfl | exact Rd.mk m1 rfl | exact Rd.mk m2 rfl | exact Rd.mk m3 rfl | assumption)) rfl ?_
    refine OpsE.ev (Ev.neq (r := true) rfl rfl (bne_iff_ne.2 (by omega))) rfl ?_
    refine OpsE.nil ?_
    repeat (first | refine .seq ?_ | refine .skip ?_ | refine .block ?_ | refine .inBlock ?_ | refine .yes rfl ?_ | refine .no rfl ?_ | refine .exit rfl ?_)
    repeat (first | refine .seq ?_ | refine .skip ?_ | refine .block ?_ | refine .inBlock ?_ | refine .yes rfl ?_ | refine .no rfl ?_ | refine .exit rfl ?_)
    refine RunsE.region ?_
    refine OpsE.ev (Ev.loadBlk (n := 2) (vs := rrL (.slice a B.length cc) e) H rfl (by kernel_rfl) rfl m1) rfl ?_
    refine OpsE.exn (Ex.storeBlk (n := 2) H rfl rfl (by kernel_rfl) (by first | rfl | simp) (by simp [Value.oneCell']) u0 (by first | rfl | simp) (Thaw.zero _ _)) ?_; (try clear H); intro _ w H
    refine OpsE.ev (Ev.assign rfl) rfl ?_
    refine OpsE.nil ?_
    repeat (first | refine .seq ?_ | refine .skip ?_ | refine .block ?_ | refine .inBlock ?_ | refine .yes rfl ?_ | refine .no rfl ?_ | refine .exit rfl ?_)
    have e1 : uintM most (B, e) = ((B, e), 0) := by simp [uintM, h0]
    rw [e1]
    exact RunsE.retAggTmp (vs := rrL (.slice a B.length cc) e) H Tryz.func42 rfl rfl rfl (by kernel_rfl) rfl m0 ⟨_, rfl, hv, H.drop.drop⟩
  obtain rfl : e = 0 := by omega
  repeat (first | refine .seq ?_ | refine .skip ?_ | refine .block ?_ | refine .inBlock ?_ | refine .yes rfl ?_ | refine .no rfl ?_ | refine .exit rfl ?_)
  refine RunsE.region ?_
  refine OpsE.ev (Ev.fieldAddr (o := 1) rfl (by kernel_rfl)) rfl ?_
  refine OpsE.ev (Ev.load H rfl (by kernel_rfl) (by first | exact Rd.mk m0 rfl | exact Rd.mk m1 rfl | exact Rd.mk m2 rfl | exact Rd.mk m3 rfl | assumption)) rfl ?_
  refine OpsE.ev (Ev.neq (r := false) rfl rfl rfl) rfl ?_
  refine OpsE.nil ?_
  repeat (first | refine .seq ?_ | refine .skip ?_ | refine .block ?_ | refine .inBlock ?_ | refine .yes rfl ?_ | refine .no rfl ?_ | refine .exit rfl ?_)
  cases hB : B with
  | nil =>
    subst hB
    repeat (first | refine .seq ?_ | refine .skip ?_ | refine .block ?_ | refine .inBlock ?_ | refine .yes rfl ?_ | refine .no rfl ?_ | refine .exit rfl ?_)
    refine RunsE.region ?_
    refine OpsE.ev (Ev.fieldAddr (o := 0) rfl (by kernel_rfl)) rfl ?_
    refine OpsE.ev (Ev.load H rfl (by kernel_rfl) (by first | exact Rd.mk m0 rfl | exact Rd.mk m1 rfl | exact Rd.mk m2 rfl | exact Rd.mk m3 rfl | assumption)) rfl ?_
    refine OpsE.ev (Ev.lenSl (d := 5) rfl rfl (by kernel_rfl)) rfl ?_
    refine OpsE.ev (Ev.eql (r := true) rfl rfl rfl) rfl ?_
    refine OpsE.nil ?_
    repeat (first | refine .seq ?_ | refine .skip ?_ | refine .block ?_ | refine .inBlock ?_ | refine .yes rfl ?_ | refine .no rfl ?_ | refine .exit rfl ?_)
    repeat (first | refine .seq ?_ | refine .skip ?_ | refine .block ?_ | refine .inBlock ?_ | refine .yes rfl ?_ | refine .no rfl ?_ | refine .exit rfl ?_)
    refine RunsE.region ?_
    refine OpsE.ev (Ev.loadBlk (n := 2) (vs := rrL (.slice a 0 cc) 0) H rfl (by kernel_rfl) rfl m1) rfl ?_
    refine OpsE.ex (Ex.call rfl Tryz.call76 (rfail_spec _ 0 12 w _ H ⟨_, _, _, rfl⟩)) rfl ?_; (try clear H); rintro _ w ⟨rfl, H⟩
    refine OpsE.exn (Ex.storeBlk (n := 2) H rfl rfl (by kernel_rfl) (by first | rfl | simp) (by simp [Value.oneCell']) u0 (by first | rfl | simp) (Thaw.zero _ _)) ?_; (try clear H); intro _ w H
    refine OpsE.ev (Ev.assign rfl) rfl ?_
    refine OpsE.nil ?_
    repeat (first | refine .seq ?_ | refine .skip ?_ | refine .block ?_ | refine .inBlock ?_ | refine .yes rfl ?_ | refine .no rfl ?_ | refine .exit rfl ?_)
    exact RunsE.retAggTmp (vs := rrL (.slice a 0 cc) 12) H Tryz.func42 rfl rfl rfl (by kernel_rfl) rfl m0 ⟨_, rfl, hv, H.drop.drop⟩
  | cons c r =>
    have hpos : 0 < B.length := by rw [hB]; simp
    have hcb := c.toNat_lt
    obtain ⟨bx, ox, rfl, hrd⟩ := hv.atI (i := 0) hpos
    have hg : B.getD 0 0 = c := by rw [hB]; rfl
    rw [hg] at hrd
    replace hrd := hrd.sub hG
    rw [← hB]
    repeat (first | refine .seq ?_ | refine .skip ?_ | refine .block ?_ | refine .inBlock ?_ | refine .yes rfl ?_ | refine .no rfl ?_ | refine .exit rfl ?_)
    refine RunsE.region ?_
    refine OpsE.ev (Ev.fieldAddr (o := 0) rfl (by kernel_rfl)) rfl ?_
    refine OpsE.ev (Ev.load H rfl (by kernel_rfl) (by first | exact Rd.mk m0 rfl | exact Rd.mk m1 rfl | exact Rd.mk m2 rfl | exact Rd.mk m3 rfl | assumption)) rfl ?_
    refine OpsE.ev (Ev.lenSl (d := 5) rfl rfl (by kernel_rfl)) rfl ?_
    refine OpsE.ev (Ev.eql (r := false) rfl rfl (beq_eq_false_iff_ne.2 (by omega))) rfl ?_
    refine OpsE.nil ?_
    repeat (first | refine .seq ?_ | refine .skip ?_ | refine .block ?_ | refine .inBlock ?_ | refine .yes rfl ?_ | refine .no rfl ?_ | refine .exit rfl ?_)
    by_cases h1 : 8 < c.toNat
    ·
      repeat (first | refine .seq ?_ | refine .skip ?_ | refine .block ?_ | refine .inBlock ?_ | refine .yes rfl ?_ | refine .no rfl ?_ | refine .exit rfl ?_)
      refine RunsE.region ?_
      refine OpsE.ev (Ev.fieldAddr (o := 0) rfl (by kernel_rfl)) rfl ?_
      refine OpsE.ev (Ev.load H rfl (by kernel_rfl) (by first | exact Rd.mk m0 rfl | exact Rd.mk m1 rfl | exact Rd.mk m2 rfl | exact Rd.mk m3 rfl | assumption)) rfl ?_
      refine OpsE.ev (Ev.iaSl (n := 5) (sz := 1) (m := 0) (o := ox + 0) rfl rfl rfl (by kernel_rfl) hpos (by rw [Nat.mul_one])) rfl ?_
      refine OpsE.ev (Ev.load (v := BV c) H rfl (by kernel_rfl) hrd.tail.tail) rfl ?_
      refine OpsE.ev (Ev.gtr (r := true) rfl rfl (decide_eq_true (by omega))) rfl ?_
      refine OpsE.nil ?_
      repeat (first | refine .seq ?_ | refine .skip ?_ | refine .block ?_ | refine .inBlock ?_ | refine .yes rfl ?_ | refine .no rfl ?_ | refine .exit rfl ?_)
      repeat (first | refine .seq ?_ | refine .skip ?_ | refine .block ?_ | refine .inBlock ?_ | refine .yes rfl ?_ | refine .no rfl ?_ | refine .exit rfl ?_)
      refine RunsE.region ?_
      refine OpsE.ev (Ev.loadBlk (n := 2) (vs := rrL (.slice (some ⟨bx, ox, none⟩) B.length cc) 0) H rfl (by kernel_rfl) rfl m1) rfl ?_
      refine OpsE.ex (Ex.call rfl Tryz.call76 (rfail_spec _ 0 3 w _ H ⟨_, _, _, rfl⟩)) rfl ?_; (try clear H); rintro _ w ⟨rfl, H⟩
      refine OpsE.exn (Ex.storeBlk (n := 2) H rfl rfl (by kernel_rfl) (by first | rfl | simp) (by simp [Value.oneCell']) u0 (by first | rfl | simp) (Thaw.zero _ _)) ?_; (try clear H); intro _ w H
      refine OpsE.ev (Ev.assign rfl) rfl ?_
      refine OpsE.nil ?_
      repeat (first | refine .seq ?_ | refine .skip ?_ | refine .block ?_ | refine .inBlock ?_ | refine .yes rfl ?_ | refine .no rfl ?_ | refine .exit rfl ?_)
      have e1 : uintM most (B, 0) = ((B, 3), 0) := by rw [hB]; simp [uintM, numM_3 h1]
      rw [e1]
      exact RunsE.retAggTmp (vs := rrL (.slice (some ⟨bx, ox, none⟩) B.length cc) 3) H Tryz.func42 rfl rfl rfl (by kernel_rfl) rfl m0 ⟨_, rfl, hv, H.drop.drop⟩
    repeat (first | refine .seq ?_ | refine .skip ?_ | refine .block ?_ | refine .inBlock ?_ | refine .yes rfl ?_ | refine .no rfl ?_ | refine .exit rfl ?_)
    refine RunsE.region ?_
    refine OpsE.ev (Ev.fieldAddr (o := 0) rfl (by kernel_rfl)) rfl ?_
    refine OpsE.ev (Ev.load H rfl (by kernel_rfl) (by first | exact Rd.mk m0 rfl | exact Rd.mk m1 rfl | exact Rd.mk m2 rfl | exact Rd.mk m3 rfl | assumption)) rfl ?_
    refine OpsE.ev (Ev.iaSl (n := 5) (sz := 1) (m := 0) (o := ox + 0) rfl rfl rfl (by kernel_rfl) hpos (by rw [Nat.mul_one])) rfl ?_
    refine OpsE.ev (Ev.load (v := BV c) H rfl (by kernel_rfl) hrd.tail.tail) rfl ?_
    refine OpsE.ev (Ev.gtr (r := false) rfl rfl (decide_eq_false (by omega))) rfl ?_
    refine OpsE.nil ?_
    repeat (first | refine .seq ?_ | refine .skip ?_ | refine .block ?_ | refine .inBlock ?_ | refine .yes rfl ?_ | refine .no rfl ?_ | refine .exit rfl ?_)
    obtain ⟨x, hx⟩ : ∃ x, x = lowM r c.toNat := ⟨_, rfl⟩
    have hnum : numM B most = if x.1 ≠ 0 then (x.1, 0, 0) else if most < x.2 then (4, 0, 0) else (0, x.2, 1 + c.toNat) := by rw [hB, numM_low h1, ← hx]
    repeat (first | refine .seq ?_ | refine .skip ?_ | refine .block ?_ | refine .inBlock ?_ | refine .yes rfl ?_ | refine .no rfl ?_ | refine .exit rfl ?_)
    refine RunsE.drawS H [] (by kernel_rfl) ?_; (try clear H); intro w H
    refine OpsD.take 0 rfl (by kernel_rfl) H (fun w H => Ev.fieldAddr (o := 0) rfl (by kernel_rfl)) rfl ?_
    refine OpsD.take 1 rfl (by kernel_rfl) H (fun w H => Ev.load H rfl (by kernel_rfl) (by first | exact Rd.mk m0 rfl | exact Rd.mk m1 rfl | exact Rd.mk m2 rfl | exact Rd.mk m3 rfl | assumption)) rfl ?_
    refine OpsD.take 2 rfl (by kernel_rfl) H (fun w H => Ev.fieldAddr (o := 0) rfl (by kernel_rfl)) rfl ?_
    refine OpsD.take 3 rfl (by kernel_rfl) H (fun w H => Ev.load H rfl (by kernel_rfl) (by first | exact Rd.mk m0 rfl | exact Rd.mk m1 rfl | exact Rd.mk m2 rfl | exact Rd.mk m3 rfl | assumption)) rfl ?_
    refine OpsD.take 4 rfl (by kernel_rfl) H (fun w H => Ev.iaSl (n := 5) (sz := 1) (m := 0) (o := ox + 0) rfl rfl rfl (by kernel_rfl) hpos (by rw [Nat.mul_one])) rfl ?_
    refine OpsD.take 5 rfl (by kernel_rfl) H (fun w H => Ev.load (v := BV c) H rfl (by kernel_rfl) hrd.tail.tail) rfl ?_
    refine OpsD.take 6 rfl (by kernel_rfl) H (fun w H => Ev.conv (c := (c.toNat : Int)) (k' := .i64) rfl (by kernel_rfl) (by kernel_rfl) (qi64 (by omega) (by omega))) rfl ?_
    refine OpsD.one 7 (by kernel_rfl) (StepD.ex rfl (Ex.call rfl Tryz.call77 (rnumber_spec _ B c r c.toNat hB (by omega) hl w _ (hv.sub hG).tail.tail H)) rfl ?_); (try clear H); rintro _ w ⟨rfl, H⟩; refine ⟨(by first | exact H | exact H.drop | exact H.drop.drop | exact H.dropL | exact H.drop.dropL | exact H.dropL.drop | exact H.dropL.dropL | exact H.dropMid), ?_⟩
    refine OpsD.take 8 rfl (by kernel_rfl) (by first | exact H | exact H.drop | exact H.drop.drop | exact H.dropL | exact H.drop.dropL | exact H.dropL.drop | exact H.dropL.dropL | exact H.dropMid) (fun w H => Ev.move rfl) rfl ?_
    refine OpsD.take 9 rfl (by kernel_rfl) (by first | exact H | exact H.drop | exact H.drop.drop | exact H.dropL | exact H.drop.dropL | exact H.dropL.drop | exact H.dropL.dropL | exact H.dropMid) (fun w H => Ev.extract rfl rfl) rfl ?_
    refine OpsD.take 10 rfl (by kernel_rfl) (by first | exact H | exact H.drop | exact H.drop.drop | exact H.dropL | exact H.drop.dropL | exact H.dropL.drop | exact H.dropL.dropL | exact H.dropMid) (fun w H => Ev.extract rfl rfl) rfl ?_
    refine OpsD.take 11 rfl (by kernel_rfl) (by first | exact H | exact H.drop | exact H.drop.drop | exact H.dropL | exact H.drop.dropL | exact H.dropL.drop | exact H.dropL.dropL | exact H.dropMid) (fun w H => Ev.assign rfl) rfl ?_
    refine OpsD.take 12 rfl (by kernel_rfl) (by first | exact H | exact H.drop | exact H.drop.drop | exact H.dropL | exact H.drop.dropL | exact H.dropL.drop | exact H.dropL.dropL | exact H.dropMid) (fun w H => Ev.assign rfl) rfl ?_
    refine OpsD.done (by kernel_rfl) ?_
    rw [← hx]
    have hx2 : x.2 < 18446744073709551616 := by
      rw [hx]
      unfold lowM
      split
      · decide
      · split
        · decide
        · have := be_lt (r.take c.toNat)
          have h4 : (r.take c.toNat).length ≤ 8 := by rw [List.length_take]; omega
          exact Nat.lt_of_lt_of_le this (Nat.le_trans (Nat.pow_le_pow_right (by decide) h4) (by decide))
    repeat refine RunsE.seq ?_
    refine RunsE.join (fun _ : Unit => [(1, .int .u64 (most : Int)), (2, .pointer (some ⟨b2, 0, none⟩)), (4, .pointer (some ⟨b4, 0, none⟩)), (6, .int .u64 (x.2 : Int)), (7, .int .i64 (x.1 : Int)), (42, .bool (decide (x.1 = 0) && decide (most < x.2)))])
      (fun _ w => SL w ((b4, .cells #[.slice none 0 0, .int .i64 0] 94 (0, 0)) :: (b2, .cells (rrL (.slice (some ⟨bx, ox, none⟩) B.length cc) 0).toArray 94 (0, 0)) :: F)) (fun next => ?_) ?_
    · by_cases h3 : x.1 = 0
      ·
        repeat (first | refine .seq ?_ | refine .skip ?_ | refine .block ?_ | refine .inBlock ?_ | refine .yes rfl ?_ | refine .no rfl ?_ | refine .exit rfl ?_)
        refine RunsE.region ?_
        refine OpsE.ev (Ev.move rfl) rfl ?_
        refine OpsE.ev (Ev.eql (r := true) rfl rfl (beq_iff_eq.2 (by omega))) rfl ?_
        refine OpsE.ev (Ev.move rfl) rfl ?_
        first | (refine OpsE.yes rfl rfl ?_; refine OpsE.ev (Ev.move rfl) rfl ?_) | refine OpsE.no rfl rfl rfl ?_ | refine OpsE.off rfl rfl rfl ?_
        first | (refine OpsE.yes rfl rfl ?_; refine OpsE.ev (Ev.move rfl) rfl ?_) | refine OpsE.no rfl rfl rfl ?_ | refine OpsE.off rfl rfl rfl ?_
        first | (refine OpsE.yes rfl rfl ?_; refine OpsE.ev (Ev.gtr (r := decide (most < x.2)) rfl rfl (by rw [Bool.eq_iff_iff, decide_eq_true_iff, decide_eq_true_iff]; omega)) rfl ?_) | refine OpsE.no rfl rfl rfl ?_ | refine OpsE.off rfl rfl rfl ?_
        refine OpsE.ev ((by first | exact Ev.pickT rfl rfl | exact Ev.pickF rfl rfl)) rfl ?_
        refine OpsE.nil ?_
        exact next () _ _ H ⟨rfl, rfl, rfl, rfl, rfl, congrArg (fun r => some (Value.bool r)) (by rw [decide_eq_true h3, Bool.true_and]), trivial⟩
      ·
        repeat (first | refine .seq ?_ | refine .skip ?_ | refine .block ?_ | refine .inBlock ?_ | refine .yes rfl ?_ | refine .no rfl ?_ | refine .exit rfl ?_)
        refine RunsE.region ?_
        refine OpsE.ev (Ev.move rfl) rfl ?_
        refine OpsE.ev (Ev.eql (r := false) rfl rfl (beq_eq_false_iff_ne.2 (by omega))) rfl ?_
        refine OpsE.ev (Ev.move rfl) rfl ?_
        first | (refine OpsE.yes rfl rfl ?_; refine OpsE.ev (Ev.move rfl) rfl ?_) | refine OpsE.no rfl rfl rfl ?_ | refine OpsE.off rfl rfl rfl ?_
        first | (refine OpsE.yes rfl rfl ?_; refine OpsE.ev (Ev.move rfl) rfl ?_) | refine OpsE.no rfl rfl rfl ?_ | refine OpsE.off rfl rfl rfl ?_
        first | (refine OpsE.yes rfl rfl ?_; refine OpsE.ev (Ev.gtr rfl rfl) rfl ?_) | refine OpsE.no rfl rfl rfl ?_ | refine OpsE.off rfl rfl rfl ?_
        refine OpsE.ev ((by first | exact Ev.pickT rfl rfl | exact Ev.pickF rfl rfl)) rfl ?_
        refine OpsE.nil ?_
        exact next () _ _ H ⟨rfl, rfl, rfl, rfl, rfl, congrArg (fun r => some (Value.bool r)) (by rw [decide_eq_false h3, Bool.false_and]), trivial⟩
    clear H
    rintro _ w H
    repeat refine RunsE.seq ?_
    refine RunsE.join (fun _ : Unit => [(2, .pointer (some ⟨b2, 0, none⟩)), (4, .pointer (some ⟨b4, 0, none⟩)), (6, .int .u64 (x.2 : Int)), (7, .int .i64 ((if x.1 ≠ 0 then x.1 else if most < x.2 then 4 else 0 : Nat) : Int))])
      (fun _ w => SL w ((b4, .cells #[.slice none 0 0, .int .i64 0] 94 (0, 0)) :: (b2, .cells (rrL (.slice (some ⟨bx, ox, none⟩) B.length cc) 0).toArray 94 (0, 0)) :: F)) (fun next => ?_) ?_
    · by_cases h3 : x.1 = 0
      · by_cases h4 : most < x.2
        · repeat refine RunsE.seq ?_
          refine RunsE.yes (by rw [decide_eq_true h3, decide_eq_true h4]; rfl) ?_
          repeat (first | refine .seq ?_ | refine .skip ?_ | refine .block ?_ | refine .inBlock ?_ | refine .yes rfl ?_ | refine .no rfl ?_ | refine .exit rfl ?_)
          refine RunsE.region ?_
          refine OpsE.ev (Ev.assign rfl) rfl ?_
          refine OpsE.nil ?_
          exact next () _ _ H ⟨rfl, rfl, rfl, by rw [if_neg (by simpa using h3), if_pos h4]; rfl, trivial⟩
        · repeat refine RunsE.seq ?_
          refine RunsE.no (by rw [decide_eq_true h3, decide_eq_false h4]; rfl) ?_
          refine RunsE.skip ?_
          exact next () _ _ H ⟨rfl, rfl, rfl, by rw [if_neg (by simpa using h3), if_neg h4]; exact congrArg (fun n : Nat => some (Value.int .i64 (n : Int))) h3, trivial⟩
      · repeat refine RunsE.seq ?_
        refine RunsE.no (by rw [decide_eq_false h3]; rfl) ?_
        refine RunsE.skip ?_
        exact next () _ _ H ⟨rfl, rfl, rfl, by rw [if_pos (by simpa using h3)]; rfl, trivial⟩
    clear H
    rintro _ w H
    obtain ⟨y, hy⟩ : ∃ y, y = (if x.1 ≠ 0 then x.1 else if most < x.2 then 4 else 0) := ⟨_, rfl⟩
    rw [← hy]
    have hnum1 : (numM B most).1 = y := by
      rw [hnum, hy]
      split
      · rfl
      · split <;> rfl
    by_cases h5 : y = 0
    · have h3 : ¬ x.1 ≠ 0 := fun h => by rw [if_pos h] at hy; exact h (hy.symm.trans h5)
      have h4 : ¬ most < x.2 := fun h => by rw [if_neg h3, if_pos h] at hy; omega
      rw [if_neg h3, if_neg h4] at hnum
      have hle := (numM_ok (hnum1.trans h5)).1
      rw [hnum] at hle
      simp only at hle
      repeat (first | refine .seq ?_ | refine .skip ?_ | refine .block ?_ | refine .inBlock ?_ | refine .yes rfl ?_ | refine .no rfl ?_ | refine .exit rfl ?_)
      refine RunsE.region ?_
      refine OpsE.ev (Ev.move rfl) rfl ?_
      refine OpsE.ev (Ev.neq (r := false) rfl rfl (bne_eq_false_iff_eq.2 (by omega))) rfl ?_
      refine OpsE.nil ?_
      repeat (first | refine .seq ?_ | refine .skip ?_ | refine .block ?_ | refine .inBlock ?_ | refine .yes rfl ?_ | refine .no rfl ?_ | refine .exit rfl ?_)
      repeat (first | refine .seq ?_ | refine .skip ?_ | refine .block ?_ | refine .inBlock ?_ | refine .yes rfl ?_ | refine .no rfl ?_ | refine .exit rfl ?_)
      refine RunsE.drawS H [10] (by kernel_rfl) ?_; (try clear H); intro w H
      refine OpsD.take 0 rfl (by kernel_rfl) H (fun w H => Ev.fieldAddr (o := 0) rfl (by kernel_rfl)) rfl ?_
      refine OpsD.take 1 rfl (by kernel_rfl) H (fun w H => Ev.load H rfl (by kernel_rfl) (by first | exact Rd.mk m0 rfl | exact Rd.mk m1 rfl | exact Rd.mk m2 rfl | exact Rd.mk m3 rfl | assumption)) rfl ?_
      refine OpsD.take 2 rfl (by kernel_rfl) H (fun w H => Ev.fieldAddr (o := 0) rfl (by kernel_rfl)) rfl ?_
      refine OpsD.take 3 rfl (by kernel_rfl) H (fun w H => Ev.load H rfl (by kernel_rfl) (by first | exact Rd.mk m0 rfl | exact Rd.mk m1 rfl | exact Rd.mk m2 rfl | exact Rd.mk m3 rfl | assumption)) rfl ?_
      refine OpsD.take 4 rfl (by kernel_rfl) H (fun w H => Ev.iaSl (n := 5) (sz := 1) (m := 0) (o := ox + 0) rfl rfl rfl (by kernel_rfl) hpos (by rw [Nat.mul_one])) rfl ?_
      refine OpsD.take 5 rfl (by kernel_rfl) H (fun w H => Ev.load (v := BV c) H rfl (by kernel_rfl) hrd.tail.tail) rfl ?_
      refine OpsD.take 6 rfl (by kernel_rfl) H (fun w H => Ev.conv (c := (c.toNat : Int)) (k' := .i64) rfl (by kernel_rfl) (by kernel_rfl) (qi64 (by omega) (by omega))) rfl ?_
      refine OpsD.take 7 rfl (by kernel_rfl) H (fun w H => Ev.add (c := ((1 + c.toNat : Nat) : Int)) rfl rfl (by rw [qi64 (by omega) (by omega)]; omega)) rfl ?_
      refine OpsD.take 8 rfl (by kernel_rfl) H (fun w H => Ev.slSl (el := 5) (sz := 1) (l := 1 + c.toNat) rfl (by kernel_rfl) (⟨_, rfl⟩) (rfl) (by omega) (by omega)) rfl ?_
      refine OpsD.take 9 rfl (by kernel_rfl) H (fun w H => Ev.fieldAddr (o := 0) rfl (by kernel_rfl)) rfl ?_
      refine OpsD.one 10 (by kernel_rfl) (StepD.exnT rfl rfl (Ex.store1 H rfl rfl (by kernel_rfl) rfl u1 (by simp) (Thaw.zero _ _) rfl) ?_); (try clear H); intro _ w H
      refine OpsD.done (by kernel_rfl) ?_
      have hin := hv.drop (k := 1 + c.toNat) hle
      repeat (first | refine .seq ?_ | refine .skip ?_ | refine .block ?_ | refine .inBlock ?_ | refine .yes rfl ?_ | refine .no rfl ?_ | refine .exit rfl ?_)
      refine RunsE.region ?_
      refine OpsE.ev (Ev.loadBlk (n := 2) (vs := rrL (.slice (cutAddr (some ⟨bx, ox, none⟩) (1 + c.toNat) cc 1) (B.length - (1 + c.toNat)) (cc - (1 + c.toNat))) 0) H rfl (by kernel_rfl) rfl m1) rfl ?_
      refine OpsE.ev (Ev.move rfl) rfl ?_
      refine OpsE.exn (Ex.storeBlk (n := 2) H rfl rfl (by kernel_rfl) (by first | rfl | simp) (by simp [Value.oneCell']) u0 (by first | rfl | simp) (Thaw.zero _ _)) ?_; (try clear H); intro _ w H
      refine OpsE.ev (Ev.assign rfl) rfl ?_
      refine OpsE.nil ?_
      repeat (first | refine .seq ?_ | refine .skip ?_ | refine .block ?_ | refine .inBlock ?_ | refine .yes rfl ?_ | refine .no rfl ?_ | refine .exit rfl ?_)
      have e1 : uintM most (B, 0) = ((B.drop (1 + c.toNat), 0), x.2) := by simp [uintM, hnum]
      rw [e1]
      exact RunsE.retAggTmp (vs := rrL (.slice (cutAddr (some ⟨bx, ox, none⟩) (1 + c.toNat) cc 1) (B.length - (1 + c.toNat)) (cc - (1 + c.toNat))) 0) H Tryz.func42 rfl rfl rfl (by kernel_rfl) rfl m0 ⟨_, rfl, hin, H.drop.drop⟩
    ·
      repeat (first | refine .seq ?_ | refine .skip ?_ | refine .block ?_ | refine .inBlock ?_ | refine .yes rfl ?_ | refine .no rfl ?_ | refine .exit rfl ?_)
      refine RunsE.region ?_
      refine OpsE.ev (Ev.move rfl) rfl ?_
      refine OpsE.ev (Ev.neq (r := true) rfl rfl (bne_iff_ne.2 (by omega))) rfl ?_
      refine OpsE.nil ?_
      repeat (first | refine .seq ?_ | refine .skip ?_ | refine .block ?_ | refine .inBlock ?_ | refine .yes rfl ?_ | refine .no rfl ?_ | refine .exit rfl ?_)
      repeat (first | refine .seq ?_ | refine .skip ?_ | refine .block ?_ | refine .inBlock ?_ | refine .yes rfl ?_ | refine .no rfl ?_ | refine .exit rfl ?_)
      refine RunsE.region ?_
      refine OpsE.ev (Ev.loadBlk (n := 2) (vs := rrL (.slice (some ⟨bx, ox, none⟩) B.length cc) 0) H rfl (by kernel_rfl) rfl m1) rfl ?_
      refine OpsE.ev (Ev.move rfl) rfl ?_
      refine OpsE.ex (Ex.call rfl Tryz.call76 (rfail_spec _ 0 y w _ H ⟨_, _, _, rfl⟩)) rfl ?_; (try clear H); rintro _ w ⟨rfl, H⟩
      refine OpsE.exn (Ex.storeBlk (n := 2) (vs := rrL (.slice (some ⟨bx, ox, none⟩) B.length cc) y) H rfl rfl (by kernel_rfl) rfl (by simp [Value.oneCell']) u0 rfl (Thaw.zero _ _)) ?_; (try clear H); intro _ w H
      refine OpsE.ev (Ev.assign rfl) rfl ?_
      refine OpsE.nil ?_
      repeat (first | refine .seq ?_ | refine .skip ?_ | refine .block ?_ | refine .inBlock ?_ | refine .yes rfl ?_ | refine .no rfl ?_ | refine .exit rfl ?_)
      have e1 : uintM most (B, 0) = ((B, y), 0) := by simp [uintM, hnum1, h5]
      rw [e1]
      exact RunsE.retAggTmp (vs := rrL (.slice (some ⟨bx, ox, none⟩) B.length cc) y) H Tryz.func42 rfl rfl rfl (by kernel_rfl) rfl m0 ⟨_, rfl, hv, H.drop.drop⟩

end Go.Proofs.YtflfaiakenahlaaGreatDoor
end
