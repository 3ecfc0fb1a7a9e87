/-
  The proof's parts, in one file: ShR2, VInv, VCap, VAgg, KO, KP, KQ, KR, KS.
-/
import Derived.Test.YtdppnaahdilkcaaGreatDoorM3
import Derived.Test.YtdppnaahdilkcaaGreatDoorM2
import Derived.ChangeKeysEq
import Derived.DeepKeys3

section
/-
  Layer 1's reader: Uint, Count, Bytes, Done.
-/
namespace Go.Proofs.YtdppnaahdilkcaaGreatDoor.V

theorem numM_lt {B : List UInt8} {most : Nat} (h : (numM B most).1 ≠ 0) : (numM B most).2 = (0, 0) := by
  cases B with
  | nil => rfl
  | cons c r =>
    by_cases h1 : 8 < c.toNat
    · rw [numM_3 h1]
    by_cases h2 : r.length < c.toNat
    · rw [numM_12 h1 h2]
    by_cases h3 : 0 < c.toNat ∧ r.head? = some 0
    · rw [numM_f h1 h2 h3]
    by_cases h4 : most < be (r.take c.toNat)
    · rw [numM_4 h1 h2 h3 h4]
    · rw [numM_0 h1 h2 h3 h4] at h; exact absurd rfl h

theorem eq0 (c : UInt8) : (((c.toNat : Nat) : Int) == 0) = decide (c = 0) := by
  rw [Bool.eq_iff_iff, beq_iff_eq, decide_eq_true_iff]
  exact ⟨fun h => UInt8.toNat_inj.1 (by simpa using h), fun h => by rw [h]; rfl⟩
theorem ne255 (d : UInt8) : (((d.toNat : Nat) : Int) != 255) = decide (d ≠ 255) := by
  rw [Bool.eq_iff_iff, bne_iff_ne, decide_eq_true_iff]
  refine not_congr ⟨fun h => UInt8.toNat_inj.1 ?_, fun h => by rw [h]; rfl⟩
  have : d.toNat = 255 := by omega
  rw [this]; rfl
theorem scanM_end {most : Nat} {out : List UInt8} : scanM most out [0] = (12, [], []) := rfl
theorem scanM_00 {most : Nat} {out r : List UInt8} : scanM most out (0 :: 0 :: r) = (0, out, r) := rfl
theorem scanM_03 {most : Nat} {out r : List UInt8} {d : UInt8} (h1 : d ≠ 0) (h2 : d ≠ 255) : scanM most out (0 :: d :: r) = (3, [], []) := by
  conv => lhs; unfold scanM
  simp [h1, h2]
theorem scanM_0f {most : Nat} {out r : List UInt8} : scanM most out (0 :: 255 :: r) = if out.length = most then (2, [], []) else scanM most (out ++ [0]) r := by
  conv => lhs; unfold scanM
  simp only [if_true]
  rw [if_neg (by decide), if_neg (by decide)]
theorem scanM_c {most : Nat} {out r : List UInt8} {c : UInt8} (h : c ≠ 0) : scanM most out (c :: r) = if out.length = most then (2, [], []) else scanM most (out ++ [c]) r := by
  conv => lhs; unfold scanM
  rw [if_neg h]

section
variable {P : Program} {w : World} {e : Env} {ty : TypeId} {x y : Operand}
theorem Ev.maxN {k k' : IntKind} {a b c : Int} {ats : Array TypeId} (hx : e.val x = some (.int k a)) (hy : e.val y = some (.int k' b)) (hc : c = if b > a then b else a) :
    Ev P w e (.call ⟨.builtin .max, #[x, y], ats⟩) ty (.int k c) := .of fun ρ hρ _ _ _ _ => by
  subst hc
  simp [execOp, resolve, invoke, builtin, hρ _ _ hx, hρ _ _ hy, Builtin.max_, Builtin.max2]
end

end Go.Proofs.YtdppnaahdilkcaaGreatDoor.V
namespace Go.Proofs.YtdppnaahdilkcaaGreatDoor
open Go.Proofs.YtdppnaahdilkcaaGreatDoor.V

theorem ruint_spec [Strm] (b : Nat) (v : Value) (line : List UInt8) (k e most : Nat) (hk : k ≤ line.length) (hl : line.length ≤ 1000000) (w : World) (F : List (Nat × Obj)) (hv : Inp F v line) (H : SL w ((b, rdO v k e) :: F)) :
    Does Tryz.prog 78 #[.pointer (some ⟨b, 0, none⟩), .int .u64 (most : Int)] w fun r w' => ∃ k', k' ≤ line.length ∧ line.drop k' = (uintM most (line.drop k, e)).1.1 ∧
      r = .int .u64 ((uintM most (line.drop k, e)).2 : Int) ∧ SL w' ((b, rdO v k' (uintM most (line.drop k, e)).1.2) :: F) := by
  refine Does.intro (args := [_, _]) (e := [(0, _), (1, _)]) Tryz.func78 rfl Tryz.ntmps78 rfl rfl ?_
  refine .st ?_
  refine .st ?_
  refine RunsE.region ?_
  refine .au1 ?_
  refine .nil ?_
  refine .st ?_
  refine RunsE.region ?_
  refine .au1 ?_
  refine .ex (Ex.call rfl Tryz.call128 (off_spec b v k e w F H)) rfl ?_; (try clear H); rintro _ w ⟨rfl, H⟩
  refine .nil ?_
  by_cases h0 : e = 0
  · repeat refine RunsE.seq ?_
    refine RunsE.no (by rw [decide_eq_false (by simpa using h0)]; rfl) ?_
    rw [h0] at H ⊢
    refine .st ?_
    refine RunsE.region ?_
    refine .au2 ?_
    refine .ex (Ex.call rfl Tryz.call129 (number_spec b v line k most hk hl w F hv H)) rfl ?_; (try clear H); rintro _ w ⟨rfl, H⟩
    refine .au7 ?_
    refine .nil ?_
    refine .st ?_
    refine RunsE.region ?_
    refine .au1 ?_
    refine .nil ?_
    by_cases h1 : (numM (line.drop k) most).1 = 0
    · have h2 := numM_ok h1
      have hll : (line.drop k).length = line.length - k := List.length_drop
      repeat refine RunsE.seq ?_
      refine RunsE.yes (by rw [decide_eq_true h1]; rfl) ?_
      refine .st ?_
      refine RunsE.region ?_
      refine .au1 ?_
      refine .ev (Ev.nilCheck rfl) rfl ?_
      refine .ev (Ev.fieldAddr (o := 1) rfl (by kernel_rfl)) rfl ?_
      refine .ev (Ev.ld H) rfl ?_
      refine .au1 ?_
      refine .ev (Ev.add (c := ((k + (numM (line.drop k) most).2.2 : Nat) : Int)) rfl rfl (by rw [qi64 (by omega) (by omega)]; omega)) rfl ?_
      refine .ev (Ev.nilCheck rfl) rfl ?_
      refine .ev (Ev.fieldAddr (o := 1) rfl (by kernel_rfl)) rfl ?_
      refine .exn (Ex.store1 H rfl rfl (by kernel_rfl) rfl u0 (by simp) (Thaw.zero _ _) rfl) ?_; (try clear H); intro _ w H
      refine .nil ?_
      refine .st ?_
      refine RunsE.region ?_
      refine .au2 ?_
      refine .nil ?_
      refine .st ?_
      refine RunsE.ret1 Tryz.func78 rfl rfl ⟨k + (numM (line.drop k) most).2.2, by omega, ?_, ?_, ?_⟩
      · simp [uintM, h1, List.drop_drop]
      · simp [uintM, h1]
      · rw [h1] at H
        have e1 : (uintM most (line.drop k, 0)).1.2 = 0 := by simp [uintM, h1]
        rw [e1]
        exact H
    · repeat refine RunsE.seq ?_
      refine RunsE.no (by rw [decide_eq_false h1]; rfl) ?_
      refine .st ?_
      refine RunsE.region ?_
      refine .au2 ?_
      refine .nil ?_
      refine .st ?_
      refine RunsE.ret1 Tryz.func78 rfl rfl ⟨k, hk, ?_, ?_, ?_⟩
      · simp [uintM, h1]
      · have := numM_lt h1
        simp [uintM, h1, this]
      · have e1 : (uintM most (line.drop k, 0)).1.2 = (numM (line.drop k) most).1 := by simp [uintM, h1]
        rw [e1]
        exact H
  · repeat refine RunsE.seq ?_
    refine RunsE.yes (by rw [decide_eq_true (by simpa using h0)]; rfl) ?_
    refine .st ?_
    refine RunsE.region ?_
    refine .au1 ?_
    refine .nil ?_
    refine .st ?_
    refine RunsE.ret1 Tryz.func78 rfl rfl ⟨k, hk, ?_, ?_, ?_⟩
    · simp [uintM, h0]
    · simp [uintM, h0]
    · have e1 : (uintM most (line.drop k, e)).1.2 = e := by simp [uintM, h0]
      rw [e1]
      exact H

set_option maxHeartbeats 1000000 in
theorem rcount_spec [Strm] (b : Nat) (v : Value) (line : List UInt8) (k e most : Nat) (hm : most ≤ 1000000) (hk : k ≤ line.length) (hl : line.length ≤ 1000000) (w : World) (F : List (Nat × Obj)) (hv : Inp F v line) (H : SL w ((b, rdO v k e) :: F)) :
    Does Tryz.prog 79 #[.pointer (some ⟨b, 0, none⟩), .int .i64 (most : Int)] w fun r w' => ∃ k', k' ≤ line.length ∧ line.drop k' = (countM most (line.drop k, e)).1.1 ∧
      r = .int .i64 ((countM most (line.drop k, e)).2 : Int) ∧ SL w' ((b, rdO v k' (countM most (line.drop k, e)).1.2) :: F) := by
  refine Does.intro (args := [_, _]) (e := [(0, _), (1, _)]) Tryz.func79 rfl Tryz.ntmps79 rfl rfl ?_
  refine .st ?_
  refine .st ?_
  refine RunsE.region ?_
  refine .au1 ?_
  refine .nil ?_
  refine .st ?_
  refine RunsE.region ?_
  refine .au1 ?_
  refine .ex (Ex.call rfl Tryz.call128 (off_spec b v k e w F H)) rfl ?_; (try clear H); rintro _ w ⟨rfl, H⟩
  refine .nil ?_
  by_cases h0 : e = 0
  · repeat refine RunsE.seq ?_
    refine RunsE.no (by rw [decide_eq_false (by simpa using h0)]; rfl) ?_
    rw [h0] at H ⊢
    refine .st ?_
    refine RunsE.region ?_
    refine .au2 ?_
    refine .ev (Ev.maxN (c := (most : Int)) rfl rfl (by split <;> omega)) rfl ?_
    refine .ev (Ev.conv (k' := .u64) rfl (by kernel_rfl) (by kernel_rfl)) rfl ?_
    refine .ex (Ex.call rfl Tryz.call129 (number_spec b v line k most hk hl w F hv H)) rfl ?_; (try clear H); rintro _ w ⟨rfl, H⟩
    refine .au7 ?_
    refine .nil ?_
    have hll : (line.drop k).length = line.length - k := List.length_drop
    by_cases h1 : (numM (line.drop k) most).1 = 0
    · have h2 := numM_ok h1
      rw [h1] at H
      rw [decide_eq_true h1]
      refine .st ?_
      refine RunsE.region ?_
      refine .au4 ?_
      first | (refine .yes rfl rfl ?_; refine .ex (Ex.call rfl Tryz.call130 (rest_spec b v line k 0 hk hl w F hv H)) rfl ?_; (try clear H); rintro u w ⟨hu, H⟩; obtain ⟨a1, c1, rfl, hc1⟩ := hu.len) | refine .nf ?_
      first | refine .ye (Ev.lenSl (d := 5) rfl rfl (by kernel_rfl)) ?_ | refine .nf ?_
      refine .au1 ?_
      first | refine .ye (Ev.sub (c := (((line.drop k).length - (numM (line.drop k) most).2.2 : Nat) : Int)) rfl rfl (by rw [qi64 (by omega) (by omega)]; omega)) ?_ | refine .nf ?_
      first | refine .ye (Ev.conv (c := (((line.drop k).length - (numM (line.drop k) most).2.2 : Nat) : Int)) (k' := .u64) rfl (by kernel_rfl) (by kernel_rfl) (qu64 (by omega) (by omega))) ?_ | refine .nf ?_
      first | refine .ye (Ev.gtr (r := decide ((line.drop k).length - (numM (line.drop k) most).2.2 < (numM (line.drop k) most).2.1)) rfl rfl (by rw [Bool.eq_iff_iff, decide_eq_true_iff, decide_eq_true_iff]; omega)) ?_ | refine .nf ?_
      refine .au1 ?_
      refine .nil ?_
      by_cases h3 : (line.drop k).length - (numM (line.drop k) most).2.2 < (numM (line.drop k) most).2.1
      · repeat refine RunsE.seq ?_
        refine RunsE.yes (by rw [decide_eq_true h3]; rfl) ?_
        refine .st ?_
        refine RunsE.region ?_
        refine .au1 ?_
        refine .ev (Ev.makeInterface (d := (.int .i64)) rfl (by kernel_rfl) rfl) rfl ?_
        refine .ex (Ex.call rfl Tryz.call131 (fail_spec b v k 2 w F H)) rfl ?_; (try clear H); rintro _ w ⟨rfl, H⟩
        refine .nil ?_
        refine .st ?_
        refine RunsE.region ?_
        refine .au1 ?_
        refine .nil ?_
        refine .st ?_
        have e1 : countM most (line.drop k, 0) = ((line.drop k, 2), 0) := by
          unfold countM
          simp only [ne_eq, not_true, if_false, h1, if_pos h3]
        rw [e1]
        exact RunsE.ret1 Tryz.func79 rfl rfl ⟨k, hk, rfl, rfl, H⟩
      · repeat refine RunsE.seq ?_
        refine RunsE.no (by rw [decide_eq_false h3]; rfl) ?_
        refine .st ?_
        refine RunsE.region ?_
        refine .au1 ?_
        refine .nil ?_
        refine .st ?_
        refine .st ?_
        refine RunsE.region ?_
        refine .au1 ?_
        refine .ev (Ev.nilCheck rfl) rfl ?_
        refine .ev (Ev.fieldAddr (o := 1) rfl (by kernel_rfl)) rfl ?_
        refine .ev (Ev.ld H) rfl ?_
        refine .au1 ?_
        refine .ev (Ev.add (c := ((k + (numM (line.drop k) most).2.2 : Nat) : Int)) rfl rfl (by rw [qi64 (by omega) (by omega)]; omega)) rfl ?_
        refine .ev (Ev.nilCheck rfl) rfl ?_
        refine .ev (Ev.fieldAddr (o := 1) rfl (by kernel_rfl)) rfl ?_
        refine .exn (Ex.store1 H rfl rfl (by kernel_rfl) rfl u0 (by simp) (Thaw.zero _ _) rfl) ?_; (try clear H); intro _ w H
        refine .nil ?_
        refine .st ?_
        refine RunsE.region ?_
        refine .au1 ?_
        refine .ev (Ev.conv (c := ((numM (line.drop k) most).2.1 : Int)) (k' := .i64) rfl (by kernel_rfl) (by kernel_rfl) (qi64 (by omega) (by omega))) rfl ?_
        refine .au1 ?_
        refine .nil ?_
        refine .st ?_
        have e1 : countM most (line.drop k, 0) = (((line.drop k).drop (numM (line.drop k) most).2.2, 0), (numM (line.drop k) most).2.1) := by
          unfold countM
          simp only [ne_eq, not_true, if_false, h1, if_neg h3]
        rw [e1]
        exact RunsE.ret1 Tryz.func79 rfl rfl ⟨k + (numM (line.drop k) most).2.2, by omega, by rw [List.drop_drop], rfl, H⟩
    · rw [decide_eq_false h1]
      have hz := numM_lt h1
      refine .st ?_
      refine RunsE.region ?_
      refine .au4 ?_
      first | (refine .yes rfl rfl ?_; refine .ex (Ex.call rfl Tryz.call130 (?spec)) rfl ?_; (try clear H); rintro _ w ⟨rfl, H⟩) | refine .nf ?_
      first | refine .ye (Ev.lenSl (d := 5) rfl rfl (by kernel_rfl)) ?_ | refine .nf ?_
      refine .au1 ?_
      first | refine .ye (Ev.sub rfl rfl) ?_ | refine .nf ?_
      first | refine .ye (Ev.conv (k' := .u64) rfl (by kernel_rfl) (by kernel_rfl)) ?_ | refine .nf ?_
      first | refine .ye (Ev.gtr rfl rfl) ?_ | refine .nf ?_
      refine .au1 ?_
      refine .nil ?_
      refine .st ?_
      refine .st ?_
      refine RunsE.region ?_
      refine .au1 ?_
      refine .nil ?_
      refine .st ?_
      refine .st ?_
      refine RunsE.region ?_
      refine .au1 ?_
      refine .ev (Ev.conv (c := ((numM (line.drop k) most).2.1 : Int)) (k' := .i64) rfl (by kernel_rfl) (by kernel_rfl) (by rw [hz]; decide)) rfl ?_
      refine .au1 ?_
      refine .nil ?_
      refine .st ?_
      have e1 : countM most (line.drop k, 0) = ((line.drop k, (numM (line.drop k) most).1), 0) := by
        unfold countM
        simp only [ne_eq, not_true, if_false, if_pos h1]
      rw [e1]
      exact RunsE.ret1 Tryz.func79 rfl rfl ⟨k, hk, rfl, by rw [hz], H⟩
  · repeat refine RunsE.seq ?_
    refine RunsE.yes (by rw [decide_eq_true (by simpa using h0)]; rfl) ?_
    refine .st ?_
    refine RunsE.region ?_
    refine .au1 ?_
    refine .nil ?_
    refine .st ?_
    have e1 : countM most (line.drop k, e) = ((line.drop k, e), 0) := by simp [countM, h0]
    rw [e1]
    exact RunsE.ret1 Tryz.func79 rfl rfl ⟨k, hk, rfl, rfl, H⟩

theorem rdone_spec [Strm] (b : Nat) (v : Value) (line : List UInt8) (k e : Nat) (hk : k ≤ line.length) (hl : line.length ≤ 1000000) (w : World) (F : List (Nat × Obj)) (hv : Inp F v line) (H : SL w ((b, rdO v k e) :: F)) :
    Does Tryz.prog 81 #[.pointer (some ⟨b, 0, none⟩)] w fun r w' => r = EV (doneM (line.drop k, e)) ∧ SL w' ((b, rdO v k e) :: F) := by
  obtain ⟨a, c, rfl, hc⟩ := hv.len
  refine Does.intro (args := [_]) (e := [(0, _)]) Tryz.func81 rfl Tryz.ntmps81 rfl rfl ?_
  refine .st ?_
  refine .st ?_
  refine RunsE.region ?_
  refine .au1 ?_
  refine .nil ?_
  refine .st ?_
  refine RunsE.region ?_
  refine .au1 ?_
  refine .ev (Ev.ptrNilEq (el := 226) rfl rfl (by kernel_rfl)) rfl ?_
  refine .au1 ?_
  refine .nil ?_
  refine .st ?_
  cases e with
  | zero =>
    refine .st ?_
    refine RunsE.region ?_
    refine .au1 ?_
    refine .ev (Ev.nilCheck rfl) rfl ?_
    refine .ev (Ev.fieldAddr (o := 2) rfl (by kernel_rfl)) rfl ?_
    refine .ev (Ev.ld H) rfl ?_
    refine .ev (Ev.ifNilNeF rfl Tryz.underlying39) rfl ?_
    refine .au1 ?_
    refine .nil ?_
    refine .st ?_
    have hll : (line.drop k).length = line.length - k := List.length_drop
    by_cases h1 : k < line.length
    ·
      refine .st ?_
      refine RunsE.drawS H [] (by kernel_rfl) ?_; (try clear H); intro w H
      refine .tk 0 rfl H (fun w H => Ev.move rfl) ?_
      refine .tk 1 rfl H (fun w H => Ev.nilCheck rfl) ?_
      refine .tk 2 rfl H (fun w H => Ev.fieldAddr (o := 1) rfl (by kernel_rfl)) ?_
      refine .tk 3 rfl H (fun w H => Ev.ld H) ?_
      refine .tk 4 rfl H (fun w H => Ev.move rfl) ?_
      refine .tk 5 rfl H (fun w H => Ev.nilCheck rfl) ?_
      refine .tk 6 rfl H (fun w H => Ev.fieldAddr (o := 0) rfl (by kernel_rfl)) ?_
      refine .tk 7 rfl H (fun w H => Ev.ld H) ?_
      refine .tk 8 rfl H (fun w H => Ev.lenSl (d := 5) rfl rfl (by kernel_rfl)) ?_
      refine .tk 9 rfl H (fun w H => Ev.lss (r := true) rfl rfl (decide_eq_true (by omega))) ?_
      refine .tk 10 rfl H (fun w H => Ev.assign rfl) ?_
      refine OpsD.done (by kernel_rfl) ?_
      refine .st ?_
      refine .st ?_
      refine RunsE.region ?_
      refine .ev (Ev.makeInterface (d := (.int .i64)) rfl (by kernel_rfl) rfl) rfl ?_
      refine .au1 ?_
      refine .nil ?_
      refine .st ?_
      refine RunsE.ret1 Tryz.func81 rfl rfl ⟨?_, H⟩
      have : line.drop k ≠ [] := fun h => by rw [h] at hll; simp at hll; omega
      simp [doneM, this]
      rfl
    ·
      refine .st ?_
      refine RunsE.drawS H [] (by kernel_rfl) ?_; (try clear H); intro w H
      refine .tk 0 rfl H (fun w H => Ev.move rfl) ?_
      refine .tk 1 rfl H (fun w H => Ev.nilCheck rfl) ?_
      refine .tk 2 rfl H (fun w H => Ev.fieldAddr (o := 1) rfl (by kernel_rfl)) ?_
      refine .tk 3 rfl H (fun w H => Ev.ld H) ?_
      refine .tk 4 rfl H (fun w H => Ev.move rfl) ?_
      refine .tk 5 rfl H (fun w H => Ev.nilCheck rfl) ?_
      refine .tk 6 rfl H (fun w H => Ev.fieldAddr (o := 0) rfl (by kernel_rfl)) ?_
      refine .tk 7 rfl H (fun w H => Ev.ld H) ?_
      refine .tk 8 rfl H (fun w H => Ev.lenSl (d := 5) rfl rfl (by kernel_rfl)) ?_
      refine .tk 9 rfl H (fun w H => Ev.lss (r := false) rfl rfl (decide_eq_false (by omega))) ?_
      refine .tk 10 rfl H (fun w H => Ev.assign rfl) ?_
      refine OpsD.done (by kernel_rfl) ?_
      refine .st ?_
      refine .st ?_
      refine RunsE.region ?_
      refine .au1 ?_
      refine .nil ?_
      refine .st ?_
      refine RunsE.ret1 Tryz.func81 rfl rfl ⟨?_, H⟩
      have : line.drop k = [] := List.eq_nil_of_length_eq_zero (by omega)
      simp [doneM, this]
      rfl
  | succ n =>
    refine .st ?_
    refine RunsE.region ?_
    refine .au1 ?_
    refine .ev (Ev.nilCheck rfl) rfl ?_
    refine .ev (Ev.fieldAddr (o := 2) rfl (by kernel_rfl)) rfl ?_
    refine .ev (Ev.ld H) rfl ?_
    refine .ev (Ev.ifNilNe rfl Tryz.underlying39) rfl ?_
    refine .au1 ?_
    refine .nil ?_
    refine .st ?_
    refine .st ?_
    refine RunsE.region ?_
    refine .au1 ?_
    refine .ev (Ev.nilCheck rfl) rfl ?_
    refine .ev (Ev.fieldAddr (o := 2) rfl (by kernel_rfl)) rfl ?_
    refine .ev (Ev.ld H) rfl ?_
    refine .au1 ?_
    refine .nil ?_
    refine .st ?_
    exact RunsE.ret1 Tryz.func81 rfl rfl ⟨rfl, H⟩

set_option maxHeartbeats 2000000 in
theorem rbytes_spec [Strm] (b : Nat) (v : Value) (line : List UInt8) (k e most : Nat) (hm : most ≤ 1000000) (hk : k ≤ line.length) (hl : line.length ≤ 1000000) (w : World) (F : List (Nat × Obj)) (hv : Inp F v line) (H : SL w ((b, rdO v k e) :: F)) :
    Does Tryz.prog 178 #[.pointer (some ⟨b, 0, none⟩), .int .i64 (most : Int)] w fun r w' => ∃ k' B, k' ≤ line.length ∧ line.drop k' = (bytesM most (line.drop k, e)).1.1 ∧
      Slc gB 1 5 r (bytesM most (line.drop k, e)).2 B ∧ SL w' (B ++ (b, rdO v k' (bytesM most (line.drop k, e)).1.2) :: F) := by
  refine Does.intro (args := [_, _]) (e := [(0, _), (1, _)]) Tryz.func178 rfl Tryz.ntmps178 rfl rfl ?_
  refine .st ?_
  refine .st ?_
  refine RunsE.region ?_
  refine .au1 ?_
  refine .nil ?_
  refine .st ?_
  refine RunsE.region ?_
  refine .au1 ?_
  refine .ex (Ex.call rfl Tryz.call128 (off_spec b v k e w F H)) rfl ?_; (try clear H); rintro _ w ⟨rfl, H⟩
  refine .nil ?_
  by_cases h0 : e = 0
  · repeat refine RunsE.seq ?_
    refine RunsE.no (by rw [decide_eq_false (by simpa using h0)]; rfl) ?_
    rw [h0] at H ⊢
    refine .st ?_
    refine RunsE.region ?_
    refine .au1 ?_
    refine .ev (Ev.lss (r := false) rfl rfl (decide_eq_false (by omega))) rfl ?_
    refine .nil ?_
    refine .st ?_
    refine RunsE.region ?_
    refine .au1 ?_
    refine .nil ?_
    refine .st ?_
    refine RunsE.region ?_
    refine .au1 ?_
    refine .ex (Ex.call rfl Tryz.call130 (rest_spec b v line k 0 hk hl w F hv H)) rfl ?_; (try clear H); rintro u w ⟨hu, H⟩; obtain ⟨a1, c1, rfl, hc1⟩ := hu.len
    refine .au1 ?_
    refine .nil ?_
    refine .st ?_
    refine RunsE.region ?_
    refine .au1 ?_
    refine .nil ?_
    have hll : (line.drop k).length = line.length - k := List.length_drop
    have hdk : ∀ j, line.drop (k + j) = (line.drop k).drop j := fun j => by rw [List.drop_drop]
    obtain ⟨B0, hB0⟩ : ∃ B0, B0 = line.drop k := ⟨_, rfl⟩
    rw [← hB0] at hll hu hdk ⊢
    have hbad : ∀ {n : Nat}, n ≠ 0 → scanM most [] B0 = (n, [], []) → bytesM most (B0, 0) = ((B0, n), []) := fun {n} hn h => by
      unfold bytesM
      simp only [ne_eq, not_true, if_false, h, hn, not_false_eq_true, if_true]
    repeat refine RunsE.seq ?_
    refine RunsE.join (fun _ : Unit => [(0, .pointer (some ⟨b, 0, none⟩))]) (fun _ w => scanM most [] B0 = (12, [], []) ∧ SL w ((b, rdO v k 0) :: F)) (fun next => ?_) ?_
    · refine RunsE.block ?_
      refine RunsE.loop (fun s : Nat × Value × List UInt8 => [(0, .pointer (some ⟨b, 0, none⟩)), (1, .int .i64 (most : Int)), (5, s.2.1), (6, .slice a1 B0.length c1), (7, .int .i64 (s.1 : Int))])
        (fun s w => s.1 ≤ B0.length ∧ s.2.2.length ≤ most ∧ scanM most s.2.2 (B0.drop s.1) = scanM most [] B0 ∧ ∃ B, Slc gB 1 5 s.2.1 s.2.2 B ∧ SL w (B ++ (b, rdO v k 0) :: F)) (fun s => B0.length - s.1)
        (0, .slice none 0 0, []) ⟨rfl, rfl, rfl, rfl, rfl, trivial⟩ ⟨by omega, by simp, rfl, [], .nil, H⟩ ?_
      clear H
      rintro ⟨i, vo, out⟩ w ⟨hi, ho, hsc, B, hs, H⟩ nextL
      simp only at hi ho hsc hs
      obtain ⟨ao, co, rfl, hco⟩ := hs.leCap
      by_cases h1 : i = B0.length
      ·
        refine .st ?_
        refine RunsE.region ?_
        refine .au2 ?_
        refine .ev (Ev.lenSl (d := 5) rfl rfl (by kernel_rfl)) rfl ?_
        refine .ev (Ev.lss (r := false) rfl rfl (decide_eq_false (by simp only; omega))) rfl ?_
        refine .nil ?_
        repeat refine RunsE.seq ?_
        refine RunsE.no rfl ?_
        refine RunsE.exit rfl ?_
        rw [h1, List.drop_length] at hsc
        exact next () _ _ ⟨hsc.symm, H.dropL⟩ ⟨rfl, trivial⟩
      clear next
      have hil : i < B0.length := by omega
      obtain ⟨bx, ox, rfl, hr1⟩ := hu.atI hil
      have hdr := drop_consD (d := 0) hil
      obtain ⟨c, hc⟩ : ∃ c, c = B0.getD i 0 := ⟨_, rfl⟩
      rw [← hc] at hr1 hdr
      have hcb := c.toNat_lt
      rw [hdr] at hsc
      refine .st ?_
      refine RunsE.region ?_
      refine .au2 ?_
      refine .ev (Ev.lenSl (d := 5) rfl rfl (by kernel_rfl)) rfl ?_
      refine .ev (Ev.lss (r := true) rfl rfl (decide_eq_true (by simp only; omega))) rfl ?_
      refine .nil ?_
      refine .st ?_
      refine .st ?_
      refine RunsE.region ?_
      refine .au2 ?_
      refine .ev (Ev.iaSl (n := 5) (sz := 1) (m := i) (o := ox + i) rfl rfl rfl (by kernel_rfl) hil (by rw [Nat.mul_one])) rfl ?_
      refine .ev (Ev.load (v := BV c) H rfl (by kernel_rfl) (hr1.tail.right)) rfl ?_
      refine .au1 ?_
      refine .nil ?_
      refine .st ?_
      refine RunsE.region ?_
      refine .au1 ?_
      refine .ev (Ev.eql (r := decide (c = 0)) rfl rfl (eq0 _)) rfl ?_
      refine .nil ?_
      repeat refine RunsE.seq ?_
      refine RunsE.join (fun i' : Nat => [(0, .pointer (some ⟨b, 0, none⟩)), (1, .int .i64 (most : Int)), (5, .slice ao out.length co), (6, .slice (some ⟨bx, ox, none⟩) B0.length c1), (7, .int .i64 (i' : Int)), (8, BV c)])
        (fun i' w => i' < B0.length ∧ i ≤ i' ∧ (scanM most [] B0 = if out.length = most then (2, [], []) else scanM most (out ++ [c]) (B0.drop (i' + 1))) ∧ SL w (B ++ (b, rdO v k 0) :: F)) (fun next => ?_) ?_
      · by_cases h2 : c = 0
        · subst h2
          repeat refine RunsE.seq ?_
          refine RunsE.yes rfl ?_
          refine .st ?_
          refine RunsE.region ?_
          refine .au1 ?_
          refine .ev (Ev.add rfl rfl) rfl ?_
          refine .au1 ?_
          refine .nil ?_
          by_cases h3 : i + 1 = B0.length
          · have e1 : B0.drop (i + 1) = [] := by rw [h3, List.drop_length]
            rw [e1, scanM_end] at hsc
            refine .st ?_
            refine RunsE.region ?_
            refine .au2 ?_
            refine .ev (Ev.lenSl (d := 5) rfl rfl (by kernel_rfl)) rfl ?_
            refine .ev (Ev.eql (r := true) rfl rfl (beq_iff_eq.2 (by simp only; omega))) rfl ?_
            refine .au1 ?_
            refine .nil ?_
            refine .st ?_
            refine .st ?_
            refine RunsE.region ?_
            refine .au1 ?_
            refine .ev (Ev.makeInterface (d := (.int .i64)) rfl (by kernel_rfl) rfl) rfl ?_
            refine .ex (Ex.call rfl Tryz.call131 (fail_spec b v k 12 w F H.dropL)) rfl ?_; (try clear H); rintro _ w ⟨rfl, H⟩
            refine .nil ?_
            refine .st ?_
            refine RunsE.region ?_
            refine .au1 ?_
            refine .nil ?_
            refine .st ?_
            refine RunsE.ret1 Tryz.func178 rfl rfl ⟨k, [], hk, ?_, ?_, ?_⟩
            · rw [hbad (by decide) hsc.symm, hB0]
            · rw [hbad (by decide) hsc.symm]; exact .nil
            · rw [hbad (by decide) hsc.symm]; exact H
          have hil1 : i + 1 < B0.length := by omega
          obtain ⟨bx2, ox2, ee, hr2⟩ := hu.atI hil1
          cases ee
          have hdr2 := drop_consD (d := 0) hil1
          obtain ⟨d, hd⟩ : ∃ d, d = B0.getD (i + 1) 0 := ⟨_, rfl⟩
          rw [← hd] at hr2 hdr2
          have hdb := d.toNat_lt
          rw [hdr2] at hsc
          refine .st ?_
          refine RunsE.region ?_
          refine .au2 ?_
          refine .ev (Ev.lenSl (d := 5) rfl rfl (by kernel_rfl)) rfl ?_
          refine .ev (Ev.eql (r := false) rfl rfl (beq_eq_false_iff_ne.2 (by simp only; omega))) rfl ?_
          refine .au1 ?_
          refine .nil ?_
          refine .st ?_
          refine .st ?_
          refine RunsE.region ?_
          refine .au2 ?_
          refine .ev (Ev.iaSl (n := 5) (sz := 1) (m := i + 1) (o := ox + (i + 1)) rfl rfl (by simp only; omega) (by kernel_rfl) hil1 (by rw [Nat.mul_one])) rfl ?_
          refine .ev (Ev.load (v := BV d) H rfl (by kernel_rfl) (hr2.tail.right)) rfl ?_
          refine .ev (Ev.eql (r := decide (d = 0)) rfl rfl (eq0 _)) rfl ?_
          refine .au1 ?_
          refine .nil ?_
          by_cases h4 : d = 0
          · subst h4
            rw [scanM_00] at hsc
            repeat refine RunsE.seq ?_
            refine RunsE.yes rfl ?_
            replace H := H.unmid
            refine .st ?_
            refine RunsE.region ?_
            refine .au1 ?_
            refine .ev (Ev.nilCheck rfl) rfl ?_
            refine .ev (Ev.fieldAddr (o := 1) rfl (by kernel_rfl)) rfl ?_
            refine .ev (Ev.ld H) rfl ?_
            refine .au1 ?_
            refine .ev (Ev.add (c := ((i + 2 : Nat) : Int)) rfl rfl (by simp only; rw [qi64 (by omega) (by omega)]; omega)) rfl ?_
            refine .ev (Ev.add (c := ((k + (i + 2) : Nat) : Int)) rfl rfl (by rw [qi64 (by omega) (by omega)]; omega)) rfl ?_
            refine .ev (Ev.nilCheck rfl) rfl ?_
            refine .ev (Ev.fieldAddr (o := 1) rfl (by kernel_rfl)) rfl ?_
            refine .exn (Ex.store1 H rfl rfl (by kernel_rfl) rfl u0 (by simp) (Thaw.zero _ _) rfl) ?_; (try clear H); intro _ w H
            refine .nil ?_
            refine .st ?_
            refine RunsE.region ?_
            refine .au2 ?_
            refine .nil ?_
            refine .st ?_
            have e1 : bytesM most (B0, 0) = ((B0.drop (i + 1 + 1), 0), out) := by
              unfold bytesM
              simp only [ne_eq, not_true, if_false, ← hsc]
            rw [e1]
            exact RunsE.ret1 Tryz.func178 rfl rfl ⟨k + (i + 2), B, by omega, hdk _, hs, H.mid⟩
          repeat refine RunsE.seq ?_
          refine RunsE.no (by rw [decide_eq_false h4]; rfl) ?_
          refine .st ?_
          refine RunsE.region ?_
          refine .au2 ?_
          refine .ev (Ev.iaSl (n := 5) (sz := 1) (m := i + 1) (o := ox + (i + 1)) rfl rfl (by simp only; omega) (by kernel_rfl) hil1 (by rw [Nat.mul_one])) rfl ?_
          refine .ev (Ev.load (v := BV d) H rfl (by kernel_rfl) (hr2.tail.right)) rfl ?_
          refine .ev (Ev.neq (r := decide (d ≠ 255)) rfl rfl (ne255 d)) rfl ?_
          refine .au1 ?_
          refine .nil ?_
          by_cases h5 : d = 255
          · subst h5
            rw [scanM_0f] at hsc
            repeat refine RunsE.seq ?_
            refine RunsE.no rfl ?_
            refine RunsE.skip ?_
            refine RunsE.inBlock ?_
            exact next (i + 1) _ _ ⟨hil1, by omega, hsc.symm, H⟩ ⟨rfl, rfl, rfl, rfl, congrArg (fun z => some (Value.int .i64 z)) (by simp only; omega), rfl, trivial⟩
          · rw [scanM_03 h4 h5] at hsc
            repeat refine RunsE.seq ?_
            refine RunsE.yes (by rw [decide_eq_true h5]; rfl) ?_
            refine .st ?_
            refine RunsE.region ?_
            refine .au1 ?_
            refine .ev (Ev.makeInterface (d := (.int .i64)) rfl (by kernel_rfl) rfl) rfl ?_
            refine .ex (Ex.call rfl Tryz.call131 (fail_spec b v k 3 w F H.dropL)) rfl ?_; (try clear H); rintro _ w ⟨rfl, H⟩
            refine .nil ?_
            refine .st ?_
            refine RunsE.region ?_
            refine .au1 ?_
            refine .nil ?_
            refine .st ?_
            refine RunsE.ret1 Tryz.func178 rfl rfl ⟨k, [], hk, ?_, ?_, ?_⟩
            · rw [hbad (by decide) hsc.symm, hB0]
            · rw [hbad (by decide) hsc.symm]; exact .nil
            · rw [hbad (by decide) hsc.symm]; exact H
        · rw [scanM_c h2] at hsc
          repeat refine RunsE.seq ?_
          refine RunsE.no (by rw [decide_eq_false h2]; rfl) ?_
          refine RunsE.skip ?_
          exact next i _ _ ⟨hil, by omega, hsc.symm, H⟩ ⟨rfl, rfl, rfl, rfl, rfl, rfl, trivial⟩
      clear H hsc
      rintro i' w ⟨hi', hii, hsc, H⟩
      by_cases h6 : out.length = most
      · rw [if_pos h6] at hsc
        refine .st ?_
        refine RunsE.region ?_
        refine .au1 ?_
        refine .ev (Ev.lenSl (d := 5) rfl rfl (by kernel_rfl)) rfl ?_
        refine .au1 ?_
        refine .ev (Ev.eql (r := true) rfl rfl (beq_iff_eq.2 (by omega))) rfl ?_
        refine .nil ?_
        refine .st ?_
        refine .st ?_
        refine RunsE.region ?_
        refine .au1 ?_
        refine .ev (Ev.makeInterface (d := (.int .i64)) rfl (by kernel_rfl) rfl) rfl ?_
        refine .ex (Ex.call rfl Tryz.call131 (fail_spec b v k 2 w F H.dropL)) rfl ?_; (try clear H); rintro _ w ⟨rfl, H⟩
        refine .nil ?_
        refine .st ?_
        refine RunsE.region ?_
        refine .au1 ?_
        refine .nil ?_
        refine .st ?_
        refine RunsE.ret1 Tryz.func178 rfl rfl ⟨k, [], hk, ?_, ?_, ?_⟩
        · rw [hbad (by decide) hsc, hB0]
        · rw [hbad (by decide) hsc]; exact .nil
        · rw [hbad (by decide) hsc]; exact H
      · rw [if_neg h6] at hsc
        refine .st ?_
        refine RunsE.region ?_
        refine .au1 ?_
        refine .ev (Ev.lenSl (d := 5) rfl rfl (by kernel_rfl)) rfl ?_
        refine .au1 ?_
        refine .ev (Ev.eql (r := false) rfl rfl (beq_eq_false_iff_ne.2 (by omega))) rfl ?_
        refine .nil ?_
        refine .st ?_
        refine RunsE.region ?_
        refine .au2 ?_
        refine .ex (Ex.buildSl (T := 5) (zv := .int .u8 0) H rfl (by kernel_rfl) (by kernel_rfl) (by simp [Value.oneCell']) rfl (by omega) (by omega)) rfl ?_; (try clear H); rintro _ w ⟨b74, rfl, H⟩
        refine .ex (Ex.append (g := gB) (by_ := 1) (zv := .int .u8 0) (ys := [c]) H.drop rfl rfl hs (Src.row0 H m0 rfl) (fun _ => rfl) (by simp [Value.oneCell']) (by kernel_rfl) (by kernel_rfl) (by kernel_rfl) (by kernel_rfl) rfl (by simp; omega) (by simp; omega)) rfl ?_; (try clear H); rintro v' w ⟨B, hs, H⟩
        refine .au1 ?_
        refine .nil ?_
        refine .st ?_
        refine RunsE.region ?_
        refine .au1 ?_
        refine .ev (Ev.add rfl rfl) rfl ?_
        refine .au1 ?_
        refine .nil ?_
        exact nextL (i' + 1, v', out ++ [c]) _ _ (by simp only; omega) ⟨by simp only; omega, by simp; omega, hsc.symm, B, hs, H⟩ ⟨rfl, rfl, rfl, rfl, rfl, trivial⟩
    · clear H
      rintro _ w ⟨hsc, H⟩
      refine .st ?_
      refine RunsE.region ?_
      refine .au1 ?_
      refine .ev (Ev.makeInterface (d := (.int .i64)) rfl (by kernel_rfl) rfl) rfl ?_
      refine .ex (Ex.call rfl Tryz.call131 (fail_spec b v k 12 w F H)) rfl ?_; (try clear H); rintro _ w ⟨rfl, H⟩
      refine .nil ?_
      refine .st ?_
      refine RunsE.region ?_
      refine .au1 ?_
      refine .nil ?_
      refine .st ?_
      refine RunsE.ret1 Tryz.func178 rfl rfl ⟨k, [], hk, ?_, ?_, ?_⟩
      · rw [hbad (by decide) hsc, hB0]
      · rw [hbad (by decide) hsc]; exact .nil
      · rw [hbad (by decide) hsc]; exact H
  · repeat refine RunsE.seq ?_
    refine RunsE.yes (by rw [decide_eq_true (by simpa using h0)]; rfl) ?_
    refine .st ?_
    refine RunsE.region ?_
    refine .au1 ?_
    refine .nil ?_
    refine .st ?_
    have e1 : bytesM most (line.drop k, e) = ((line.drop k, e), []) := by simp [bytesM, h0]
    rw [e1]
    exact RunsE.ret1 Tryz.func178 rfl rfl ⟨k, [], hk, rfl, .nil, H⟩

end Go.Proofs.YtdppnaahdilkcaaGreatDoor
end

section
/-
  The engine: calls through an interface, type assertions; elements of several cells of a slice of one's own.
-/
namespace Go.Proofs.YtdppnaahdilkcaaGreatDoor.V

/-- A region whose order is open, told by a part of what lies in memory. -/
theorem RunsE.drawSub [Strm] {P : Program} {C : Ctx} {R : Ending → World → Prop} {n : Nat} {k : List Item} {e : Env} {w : World} {id : Nat} {l : List Oper} {L L' : List (Nat × Obj)}
    (H : SL w L) (_ : ∀ w, SL w L → SL w L') (T : List Nat) (hm : P.follows .mixedOrders = true)
    (h : ∀ w', SL w' L → OpsD P C R k l.toArray (fun w => SL w L') T n l.length (Array.replicate l.length false) e w') (hro : C.ro = none := by rfl) :
    RunsE P C R n (.code (.region id l.toArray true) :: k) e w :=
  RunsE.draw _ T hm hro fun w' hw hk => h w' (H.heap hw hk)

/-- The method of a type by its name: its function, and whether it takes the pointer. -/
def methT (P : Program) (t : TypeId) (name : String) : Option (FuncId × Bool) := (P.info? t).bind fun inf => (inf.methods.find? (·.name == name)).bind fun m => if m.path.toList.isEmpty then m.func else none

theorem methT_spec {P : Program} {t : TypeId} {name : String} {r : FuncId × Bool} (h : methT P t name = some r) : ∃ inf m, P.info? t = some inf ∧ inf.methods.find? (·.name == name) = some m ∧ m.path.toList = [] ∧ m.func = some r := by
  simp only [methT, Option.bind_eq_some_iff] at h
  obtain ⟨inf, h1, m, h2, h3⟩ := h
  split at h3
  · rename_i hp
    exact ⟨inf, m, h1, h2, by simpa using hp, h3⟩
  · cases h3

section
variable {P : Program} {w : World} {e : Env} {ty t t2 : TypeId} {x y : Operand} {v u : Value} {L L' B : List (Nat × Obj)}

theorem run_wrapNil {ats : Array TypeId} {a : Addr} {s s' : String} : (Builtin.ssaWrapNilChk_ ats ty #[.pointer (some a), strVal s, strVal s']).run P w = .ok (.pointer (some a)) w := rfl

theorem run_method_val {f : FuncId} {el : TypeId} {a : Addr} {name : String} {n : Nat} (hm : methT P t name = some (f, false)) (ht : P.underlying t = some (.pointer el)) (hp : plainT P el = true) (hc : w.cell? a = some v) :
    (method (n + 1) t (.pointer (some a)) name).run P w = .ok (f, v) w := by
  obtain ⟨inf, m, h1, h2, h3, h4⟩ := methT_spec hm
  have hl := run_loadVar_plain hp hc
  have e1 : m.path = #[] := by apply Array.ext'; simpa using h3
  simp [method, typeInfo, h1, h2, e1, follow, h4, receiverAt, run_underlying ht, Place.get, run_wrapNil, asAddr, hl]

theorem run_method_ptr {f : FuncId} {el : TypeId} {name : String} {n : Nat} (hm : methT P t name = some (f, true)) (ht : P.underlying t = some (.pointer el)) :
    (method (n + 1) t v name).run P w = .ok (f, v) w := by
  obtain ⟨inf, m, h1, h2, h3, h4⟩ := methT_spec hm
  have e1 : m.path = #[] := by apply Array.ext'; simpa using h3
  simp [method, typeInfo, h1, h2, e1, follow, h4, receiverAt, run_underlying ht, Place.get]

theorem run_callMethod {f : FuncId} {rv : Value} {name : String} {args : Array Value} (hm : ∀ n, (method (n + 1) t v name).run P w = .ok (f, rv) w) (hc : ∀ args w, (callFunc f args).run P w = .ok (.enter f args) w) :
    (callMethod (.iface t v) name args).run P w = .ok (.enter f (#[rv] ++ args)) w := by
  have : ∃ n, P.types.size + Made.depth = n + 1 := ⟨P.types.size + Made.depth - 1, by have : Made.depth = 100 := rfl; omega⟩
  obtain ⟨n, hn⟩ := this
  simp only [callMethod, Sem.run_bind, run_program, Result.andThen, hn, hm n, hc]

/-- A call through an interface. -/
theorem Ex.invoke {f : FuncId} {rv : Value} {name : String} {l : List Operand} {vs : List Value} {ats : Array TypeId} {K : Value → World → Prop} (hx : e.val x = some (.iface t v)) (hl : e.vals l = some vs)
    (hm : ∀ n, (method (n + 1) t v name).run P w = .ok (f, rv) w) (hc : ∀ args w, (callFunc f args).run P w = .ok (.enter f args) w) (hs : Does P f (rv :: vs).toArray w K) : Ex P w e (.call ⟨.invoke x name, l.toArray, ats⟩) ty K := .of fun ρ hρ _ _ _ _ => by
  have h1 := Env.vals_map hρ hl
  have h2 := run_callMethod (args := vs.toArray) hm hc
  have h3 : (execOp ρ ⟨‹_›, .call ⟨.invoke x name, l.toArray, ats⟩, ty, ‹_›, ‹_›, ‹_›⟩).run P w = .ok (.enter f (#[rv] ++ vs.toArray)) w := by
    simp only [execOp, resolve, Sem.run_bind, Sem.run_pure, Result.andThen, hρ _ _ hx, List.map_toArray, h1, Go.invoke]
    simp [h2]
  rw [h3]
  have e1 : (#[rv] ++ vs.toArray : Array Value) = (rv :: vs).toArray := by
    apply Array.ext'
    simp
  rw [e1]
  exact hs

/-- 'x.(T)' with ok, where it holds that type. -/
theorem Ev.assertOk {T : TypeId} {d : TypeDesc} (hx : e.val x = some (.iface T v)) (hu : P.underlying T = some d) (hd : (match d with | .interface _ => false | _ => true) = true) : Ev P w e (.typeAssert x t T true) ty (.tuple #[v, .bool true]) := .of fun ρ hρ _ _ _ _ => by
  have h1 := run_underlying (w := w) hu
  simp only [execOp, hρ _ _ hx, Instr.typeAssert, Sem.run_bind, h1, Result.andThen]
  cases d <;> first | (simp; done) | simp at hd

/-! ### Elements of several cells -/

theorem flat_set {α : Type} {g : α → List Value} {sz : Nat} (hg : ∀ x, (g x).length = sz) {xs : List α} {sp : List Value} {i : Nat} (hi : i < xs.length) (y : α) :
    putAt (xs.flatMap g ++ sp).toArray (i * sz) (g y) = ((xs.set i y).flatMap g ++ sp).toArray := by
  have e1 : xs = xs.take i ++ xs[i] :: xs.drop (i + 1) := by
    rw [← List.drop_eq_getElem_cons hi, List.take_append_drop]
  have e2 : xs.set i y = xs.take i ++ y :: xs.drop (i + 1) := List.set_eq_take_append_cons_drop.trans (by rw [if_pos hi])
  rw [e2]
  have e3 : xs.flatMap g ++ sp = (xs.take i).flatMap g ++ g xs[i] ++ ((xs.drop (i + 1)).flatMap g ++ sp) := by
    have := congrArg (fun l => List.flatMap g l ++ sp) e1
    simp only [List.flatMap_append, List.flatMap_cons] at this
    rw [this]
    simp only [List.append_assoc]
  have e4 : (xs.take i ++ y :: xs.drop (i + 1)).flatMap g ++ sp = (xs.take i).flatMap g ++ g y ++ ((xs.drop (i + 1)).flatMap g ++ sp) := by simp [List.flatMap_append]
  rw [e3, e4]
  refine putAt_append ?_ ?_
  · rw [flatMap_length hg, List.length_take, Nat.min_eq_left (by omega)]
  · rw [hg, hg]

/-- An element of a slice of one's own, read. -/
theorem Slc.rdEl {α : Type} {g : α → List Value} {sz : Nat} {T : TypeId} {xs : List α} {b n c : Nat} {a : α} {i : Nat} (h : Slc g sz T (.slice (some ⟨b, 0, none⟩) n c) xs B) (hg : ∀ x, (g x).length = sz) (hi : xs[i]? = some a) :
    ∀ (j : Nat) v, (g a)[j]? = some v → Rd (B ++ L) ⟨b, i * sz + j, none⟩ v := fun j v hj => by
  have hlt : i < xs.length := by
    rcases Nat.lt_or_ge i xs.length with h | h
    · exact h
    · rw [List.getElem?_eq_none h] at hi; cases hi
  obtain ⟨b', cap, sp, fr, e1, rfl, h1, h2, h3⟩ := h.shape (by omega)
  cases e1
  have hjs : j < sz := by
    rcases Nat.lt_or_ge j sz with h | h
    · exact h
    · rw [List.getElem?_eq_none (by rw [hg]; exact h)] at hj; cases hj
  refine Rd.mk (.head _) ?_
  rw [List.getElem?_toArray]
  have hl := flatMap_length hg xs
  have hle : (i + 1) * sz ≤ xs.length * sz := Nat.mul_le_mul_right _ hlt
  rw [Nat.add_mul] at hle
  rw [List.getElem?_append_left (by omega), flatMap_get hg xs i j a hi hjs]
  exact hj

/-- A slice of one's own: where it lies, what may stand behind. -/
theorem Slc.row {α : Type} {g : α → List Value} {sz : Nat} {T : TypeId} {xs : List α} (h : Slc g sz T v xs B) (h0 : 0 < xs.length) : ∃ b c, v = .slice (some ⟨b, 0, none⟩) xs.length c ∧ xs.length ≤ c := by
  obtain ⟨b', cap, sp, fr, e1, _, h1, h2, h3⟩ := h.shape h0
  exact ⟨b', cap, e1, h2⟩

/-- An element of a slice of one's own, written. -/
theorem Ex.storeEl [Strm] {α : Type} {g : α → List Value} {sz : Nat} {T : TypeId} {xs : List α} {b n c : Nat} {a : α} {i : Nat} {B0 : List (Nat × Obj)} (H : SL w (B0 ++ (B ++ L))) (hx : e.val x = some (.pointer (some ⟨b, i * sz, none⟩))) (hy : e.val y = some u) (hu : u.cells = (g a).toArray) (ht : sizeT P t = some sz)
    (hs : Slc g sz T (.slice (some ⟨b, 0, none⟩) n c) xs B) (hg : ∀ x, (g x).length = sz) (hone : ∀ x, ∀ v ∈ g x, v.oneCell' = true) (hi : i < xs.length) :
    Ex P w e (.store t x y) ty fun _ w' => ∃ B', Slc g sz T (.slice (some ⟨b, 0, none⟩) n c) (xs.set i a) B' ∧ SL w' (B0 ++ (B' ++ L)) := by
  obtain ⟨b', cap, sp, fr, e1, rfl, h1, h2, h3⟩ := hs.shape (by omega)
  cases e1
  have hl := flatMap_length hg xs
  have hle : (i + 1) * sz ≤ xs.length * sz := Nat.mul_le_mul_right _ hi
  rw [Nat.add_mul] at hle
  have hle2 : xs.length * sz ≤ c * sz := Nat.mul_le_mul_right _ h2
  refine (Ex.store (cs' := ((xs.set i a).flatMap g ++ sp).toArray) H hx hy ht (Upd.skip .head B0) (by rw [hu]; simp [hg]) (by rw [hu]; simpa using hone a) (by simp only [List.size_toArray, List.length_append]; omega) (h3.sub (by omega)) (by rw [hu]; exact flat_set hg hi a)).mono fun _ w' H' => ?_
  refine ⟨[(b, .cells ((xs.set i a).flatMap g ++ sp).toArray T fr)], ?_, H'⟩
  have := Slc.blk (g := g) (sz := sz) (T := T) b (xs.set i a) c sp fr (by rw [List.length_set]; exact h1) (by rw [List.length_set]; exact h2) h3
  rw [List.length_set] at this
  exact this

/-- A slice of one's own, cut to its first k. -/
theorem Slc.cutTo {α : Type} {g : α → List Value} {sz : Nat} {T : TypeId} {xs : List α} {a : Option Addr} {n c k : Nat} (h : Slc g sz T (.slice a n c) xs B) (hg : ∀ x, (g x).length = sz) (hk : k ≤ xs.length) :
    Slc g sz T (.slice (cutAddr a 0 c sz) (k - 0) (c - 0)) (xs.take k) B := by
  rw [cutAddr_zero, Nat.sub_zero, Nat.sub_zero]
  generalize hv : Value.slice a n c = v at h
  cases h with
  | nil =>
    cases hv
    obtain rfl : k = 0 := by simpa using hk
    exact .nil
  | blk b xs cap spare fr h1 h2 h3 =>
    cases hv
    have hl : (xs.take k).length = k := by rw [List.length_take]; omega
    have hle : k * sz ≤ xs.length * sz := Nat.mul_le_mul_right _ hk
    have e1 : xs.flatMap g = (xs.take k).flatMap g ++ (xs.drop k).flatMap g := by
      conv => lhs; rw [← List.take_append_drop k xs]
      rw [List.flatMap_append]
    have h4 := flatMap_length hg (xs.drop k)
    rw [List.length_drop, Nat.sub_mul] at h4
    have := Slc.blk (g := g) (sz := sz) (T := T) b (xs.take k) c ((xs.drop k).flatMap g ++ spare) fr (by rw [List.length_append, h4, hl]; omega) (by omega) h3
    rw [hl, ← List.append_assoc, ← e1] at this
    exact this

end
end Go.Proofs.YtdppnaahdilkcaaGreatDoor.V
end

section
/-
  The engine: how much room a slice has.
-/
namespace Go.Proofs.YtdppnaahdilkcaaGreatDoor.V

section
variable {P : Program} {w : World} {e : Env} {ty t t2 : TypeId} {x y z : Operand} {v u : Value} {L L' : List (Nat × Obj)}

theorem Ev.capSl {a : Option Addr} {n c : Nat} {ats : Array TypeId} {d : TypeId} (hx : e.val x = some (.slice a n c)) (ha : ats[0]? = some t) (hu : P.underlying t = some (.slice d)) :
    Ev P w e (.call ⟨.builtin .cap, #[x], ats⟩) ty (.int .i64 (c : Nat)) := .of fun ρ hρ _ _ _ _ => by
  simp [execOp, resolve, invoke, builtin, hρ _ _ hx, Builtin.cap_, ha, goInt, run_underlying hu]
end

end Go.Proofs.YtdppnaahdilkcaaGreatDoor.V
end

section
/-
  The engine: arrays of bytes that are values: equal or not; a slice as an array.
-/
namespace Go.Proofs.YtdppnaahdilkcaaGreatDoor.V

section
variable {P : Program} {w : World} {e : Env} {ty t t2 : TypeId} {x y z : Operand} {v u : Value} {L L' B : List (Nat × Obj)}

theorem run_eqItems_bytes {d : Nat} {el : TypeId} {k : IntKind} (hu : P.underlying el = some (.int k)) (hc : P.cellsOf el = 1) (xs ys : List Int) : ∀ (is : List Nat), (∀ i ∈ is, i < xs.length ∧ i < ys.length) →
    (Op.eqItems (d + 1) el (P.cellsOf el) (xs.map (.int k)).toArray (ys.map (.int k)).toArray is).run P w = .ok (is.all fun i => xs[i]? == ys[i]?) w
  | [], _ => by simp [Op.eqItems]
  | i :: is, h => by
    obtain ⟨h1, h2⟩ := h i (.head _)
    have hp : P.plainKey el = true := by simp [Program.plainKey, hu]
    have e1 := run_part_plain w hp (xs := (xs.map (Value.int k)).toArray) (off := i) (v := .int k xs[i]) (by simp [h1])
    have e2 := run_part_plain w hp (xs := (ys.map (Value.int k)).toArray) (off := i) (v := .int k ys[i]) (by simp [h2])
    have e3 : (Op.equalIn (d + 1) el (.int k xs[i]) (.int k ys[i])).run P w = .ok (xs[i] == ys[i]) w := by
      simp [Op.equalIn, run_underlying hu]
    have ih := run_eqItems_bytes (d := d) hu hc xs ys is fun j hj => h j (.tail _ hj)
    have e4 : (xs[i]? == ys[i]?) = (xs[i] == ys[i]) := by simp [h1, h2]
    simp only [Op.eqItems, Sem.run_bind, hc, Nat.mul_one, e1, e2, e3, Result.andThen, List.all_cons, e4] at ih ⊢
    cases hq : (xs[i] == ys[i])
    · simp
    · simpa using ih

theorem run_equal_bytes {el n : Nat} {k : IntKind} {inf : TypeInfo} (ht : P.underlying t = some (.array n el)) (hu : P.underlying el = some (.int k)) (hi : P.info? el = some inf) (hs : inf.size = 1)
    {xs ys : List Int} (hx : xs.length = n) (hy : ys.length = n) : (Op.equal t (.agg (xs.map (.int k)).toArray) (.agg (ys.map (.int k)).toArray)).run P w = .ok (xs == ys) w := by
  have hc : P.cellsOf el = 1 := by simp [Program.cellsOf, hi, hs]
  have h1 := run_equalIn_array (P := P) w 9999 (t := t) (e := el) (n := n) (i := inf) (xs.map (.int k)).toArray (ys.map (.int k)).toArray ht hi
  have h2 := run_eqItems_bytes (P := P) (w := w) (d := 9998) hu hc xs ys (List.range n) fun i h => by have := List.mem_range.1 h; omega
  show (Op.equalIn 10000 t _ _).run P w = _
  rw [h1, h2]
  congr 1
  rw [Bool.eq_iff_iff, beq_iff_eq, List.all_eq_true]
  constructor
  · intro h
    apply List.ext_getElem?
    intro i
    by_cases hin : i < n
    · simpa using h i (List.mem_range.2 hin)
    · rw [List.getElem?_eq_none (by omega), List.getElem?_eq_none (by omega)]
  · rintro rfl i _
    simp

theorem bv_map (xs : List UInt8) : (xs.map fun b => (b.toNat : Int)).map (Value.int .u8) = xs.map BV := by simp [List.map_map, Function.comp_def]

theorem bv_eq (xs ys : List UInt8) : ((xs.map fun b => (b.toNat : Int)) == (ys.map fun b => (b.toNat : Int))) = (xs == ys) := by
  rw [Bool.eq_iff_iff, beq_iff_eq, beq_iff_eq]
  constructor
  · intro h
    refine (List.map_inj_right ?_).1 h
    intro a b h
    have : a.toNat = b.toNat := by omega
    exact UInt8.toNat_inj.1 this
  · rintro rfl; rfl

/-- What an array of bytes is. -/
structure BytesT (P : Program) (t : TypeId) (n : Nat) : Prop where
  ok : ∃ el inf, P.underlying t = some (.array n el) ∧ P.underlying el = some (.int .u8) ∧ P.info? el = some inf ∧ inf.size = 1 ∧ P.eqGuardType P.depth t = false

def bytesArr (P : Program) (t : TypeId) : Option Nat := match P.underlying t with
  | some (.array n el) => match P.underlying el, P.info? el with
    | some (.int .u8), some inf => bif Nat.beq inf.size 1 && !(P.eqGuardType P.depth t) then some n else none
    | _, _ => none
  | _ => none

theorem bytesArr_spec {n : Nat} (h : bytesArr P t = some n) : BytesT P t n := by
  unfold bytesArr at h
  split at h
  · rename_i n' el h1
    split at h
    · rename_i inf h2 h3
      cases hs : Nat.beq inf.size 1 with
      | false => rw [hs] at h; simp at h
      | true =>
        rw [hs] at h
        cases hg : P.eqGuardType P.depth t with
        | true => rw [hg] at h; simp at h
        | false =>
          rw [hg] at h
          simp at h
          subst h
          exact ⟨el, inf, h1, h2, h3, Nat.eq_of_beq_eq_true hs, hg⟩
    · cases h
  · cases h

theorem Ev.bytesEq {n : Nat} {xs ys : List UInt8} {t' : TypeId} (hx : e.val x = some (.agg (xs.map BV).toArray)) (hy : e.val y = some (.agg (ys.map BV).toArray)) (ht : bytesArr P t = some n) (h1 : xs.length = n) (h2 : ys.length = n) :
    Ev P w e (.binOp .eql t x y t') ty (.bool (xs == ys)) := .of fun ρ hρ _ _ _ _ => by
  obtain ⟨el, inf, a1, a2, a3, a4, a5⟩ := bytesArr_spec ht
  have h := run_equal_bytes (P := P) (w := w) a1 a2 a3 a4 (xs := xs.map fun b => (b.toNat : Int)) (ys := ys.map fun b => (b.toNat : Int)) (by simp [h1]) (by simp [h2])
  rw [bv_map, bv_map, bv_eq] at h
  simp [execOp, hρ _ _ hx, hρ _ _ hy, eqGuard, a5, binOp, h]

theorem Ev.bytesNe {n : Nat} {xs ys : List UInt8} {t' : TypeId} (hx : e.val x = some (.agg (xs.map BV).toArray)) (hy : e.val y = some (.agg (ys.map BV).toArray)) (ht : bytesArr P t = some n) (h1 : xs.length = n) (h2 : ys.length = n) :
    Ev P w e (.binOp .neq t x y t') ty (.bool (!(xs == ys))) := .of fun ρ hρ _ _ _ _ => by
  obtain ⟨el, inf, a1, a2, a3, a4, a5⟩ := bytesArr_spec ht
  have h := run_equal_bytes (P := P) (w := w) a1 a2 a3 a4 (xs := xs.map fun b => (b.toNat : Int)) (ys := ys.map fun b => (b.toNat : Int)) (by simp [h1]) (by simp [h2])
  rw [bv_map, bv_map, bv_eq] at h
  simp [execOp, hρ _ _ hx, hρ _ _ hy, eqGuard, a5, binOp, h]

theorem Ev.minN {k k' : IntKind} {a b c : Int} {ats : Array TypeId} (hx : e.val x = some (.int k a)) (hy : e.val y = some (.int k' b)) (hc : c = if b < a then b else a) :
    Ev P w e (.call ⟨.builtin .min, #[x, y], ats⟩) ty (.int k c) := by
  rw [hc]; exact Ev.min hx hy

/-- A slice as an array: where it lies. -/
theorem Ev.slArrPtr {n len c : Nat} {el : TypeId} {a : Option Addr} (hx : e.val x = some (.slice a len c)) (ht : P.underlying t = some (.array n el)) (hn : n ≤ len) : Ev P w e (.sliceToArrayPointer t x) ty (.pointer a) := .of fun ρ hρ _ _ _ _ => by
  have : ¬ len < n := by omega
  simp [execOp, hρ _ _ hx, Instr.arrayAt, run_underlying ht, this]

end
end Go.Proofs.YtdppnaahdilkcaaGreatDoor.V
end

section
/-
  A way to run code by reckoning (III): operations that yield a value and need no memory.
-/
namespace Go.K
open Go.Proofs.YtdppnaahdilkcaaGreatDoor.V

/-! ## Integers -/

theorem bif_some' {α : Type} {c : Bool} {x : Option α} {v : α} (h : (bif c then x else none) = some v) : c = true ∧ x = some v := by
  cases c <;> first | exact ⟨rfl, h⟩ | cases h

noncomputable def intBin (o : BinOp) (k : IntKind) (a b : Int) : Option V := match o with
  | .add => some (.int k (k.wrap (a + b)))
  | .sub => some (.int k (k.wrap (a - b)))
  | .mul => some (.int k (k.wrap (a * b)))
  | .quo => if b = 0 then none else some (.int k (k.wrap (a.tdiv b)))
  | .rem => if b = 0 then none else some (.int k (a.tmod b))
  | .lss => some (.bool (decide (a < b)))
  | .leq => some (.bool (decide (a ≤ b)))
  | .gtr => some (.bool (decide (a > b)))
  | .geq => some (.bool (decide (a ≥ b)))
  | .eql => some (.bool (a == b))
  | .neq => some (.bool (a != b))
  | _ => none

theorem intBin_spec {P : Program} {w : World} {e : Env} {ty t t' : TypeId} {x y : Operand} {o : BinOp} {k : IntKind} {a b : Int} {v : V} (h : intBin o k a b = some v) (hx : e.val x = some (.int k a)) (hy : e.val y = some (.int k b)) (S : Si) (n : Dm) :
    Ev P w e (.binOp o t x y t') ty (v.conc S) ∧ v.ok n := by
  unfold intBin at h
  split at h
  · cases h; exact ⟨Ev.add hx hy rfl, True.intro⟩
  · cases h; exact ⟨Ev.sub hx hy rfl, True.intro⟩
  · cases h; exact ⟨Ev.mul hx hy rfl, True.intro⟩
  · split at h
    · cases h
    · rename_i hb; cases h; exact ⟨Ev.quo hx hy hb rfl, True.intro⟩
  · split at h
    · cases h
    · rename_i hb; cases h; exact ⟨Ev.rem hx hy hb rfl, True.intro⟩
  · cases h; exact ⟨Ev.lss hx hy rfl, True.intro⟩
  · cases h; exact ⟨Ev.leq hx hy rfl, True.intro⟩
  · cases h; exact ⟨Ev.gtr hx hy rfl, True.intro⟩
  · cases h; exact ⟨Ev.geq hx hy rfl, True.intro⟩
  · cases h; exact ⟨Ev.eql hx hy rfl, True.intro⟩
  · cases h; exact ⟨Ev.neq hx hy rfl, True.intro⟩
  · cases h

/-! ### The same, quickly, where nothing is below nought -/

def limN : IntKind → Nat
  | .i64 => 9223372036854775808
  | .u64 => 18446744073709551616
  | .u8 => 256
  | .u32 => 4294967296
  | .i32 => 2147483648
  | _ => 128

theorem wrapN {k : IntKind} {m : Nat} (h : Nat.blt m (limN k) = true) : k.wrap (m : Int) = m := by
  have h : m < limN k := Nat.le_of_ble_eq_true h
  cases k <;> simp only [limN] at h <;> simp only [IntKind.wrap, IntKind.bits, IntKind.signed, Bool.true_and, Bool.false_and, Bool.false_eq_true, if_false, Nat.reduceSub]
  all_goals first
    | omega
    | (split
       · rename_i h'
         have h' := of_decide_eq_true h'
         omega
       · omega)

noncomputable def fitV (k : IntKind) (m : Nat) : Option V := Bool.rec (motive := fun _ => Option V) none (some (.int k (.ofNat m))) (Nat.blt m (limN k))
theorem fitV_ok {k : IntKind} {m : Nat} {v : V} (h : fitV k m = some v) : v = .int k (k.wrap (m : Int)) := by
  unfold fitV at h
  rw [brec] at h
  obtain ⟨h1, h2⟩ := bif_some' h
  cases h2
  rw [wrapN h1]; rfl

noncomputable def natBin (o : BinOp) (k : IntKind) (x y : Nat) : Option V := match o with
  | .add => fitV k (Nat.add x y)
  | .sub => Bool.rec (motive := fun _ => Option V) none (fitV k (Nat.sub x y)) (Nat.ble y x)
  | .mul => fitV k (Nat.mul x y)
  | .quo => Bool.rec (motive := fun _ => Option V) none (fitV k (Nat.div x y)) (Nat.blt 0 y)
  | .rem => Bool.rec (motive := fun _ => Option V) none (some (.int k (.ofNat (Nat.mod x y)))) (Nat.blt 0 y)
  | .lss => some (.bool (Nat.blt x y))
  | .leq => some (.bool (Nat.ble x y))
  | .gtr => some (.bool (Nat.blt y x))
  | .geq => some (.bool (Nat.ble y x))
  | .eql => some (.bool (Nat.beq x y))
  | .neq => some (.bool (!(Nat.beq x y)))
  | .shr => Bool.rec (motive := fun _ => Option V) none (some (.int k (.ofNat (Nat.shiftRight x y)))) (Nat.ble y k.bits)
  | _ => none

theorem bool_iff {a : Bool} {p : Prop} [Decidable p] (h : a = true ↔ p) : decide p = a := by
  cases a with
  | true => exact decide_eq_true (h.1 rfl)
  | false => exact decide_eq_false fun hp => by have := h.2 hp; cases this

theorem natBin_ok {o : BinOp} {k : IntKind} {x y : Nat} {v : V} (h : natBin o k x y = some v) : intBin o k (x : Int) (y : Int) = some v ∨ (o = .shr ∧ v = .int k ((x : Int).fdiv (2 ^ (min (y : Int).toNat k.bits)))) := by
  unfold natBin at h
  split at h
  · left; rw [fitV_ok h]; rfl
  · left
    rw [brec] at h
    obtain ⟨h1, h2⟩ := bif_some' h
    rw [fitV_ok h2]
    have := Nat.le_of_ble_eq_true h1
    show some (V.int k (k.wrap ((x : Int) - y))) = some (.int k (k.wrap ((x - y : Nat) : Int)))
    rw [Int.ofNat_sub this]
  · left; rw [fitV_ok h]; rfl
  · left
    rw [brec] at h
    obtain ⟨h1, h2⟩ := bif_some' h
    have h1 : 0 < y := Nat.le_of_ble_eq_true h1
    rw [fitV_ok h2]
    show (if (y : Int) = 0 then none else some (V.int k (k.wrap ((x : Int).tdiv y)))) = _
    rw [if_neg (by omega)]
    rfl
  · left
    rw [brec] at h
    obtain ⟨h1, h2⟩ := bif_some' h
    have h1 : 0 < y := Nat.le_of_ble_eq_true h1
    cases h2
    show (if (y : Int) = 0 then none else some (V.int k ((x : Int).tmod y))) = _
    rw [if_neg (by omega), qrem]; rfl
  · left; cases h; show some (V.bool (decide ((x : Int) < y))) = _; rw [bool_iff (a := Nat.blt x y) (by rw [Nat.blt_eq]; omega)]
  · left; cases h; show some (V.bool (decide ((x : Int) ≤ y))) = _; rw [bool_iff (a := Nat.ble x y) (by rw [Nat.ble_eq]; omega)]
  · left; cases h; show some (V.bool (decide ((x : Int) > y))) = _; rw [bool_iff (a := Nat.blt y x) (by rw [Nat.blt_eq]; omega)]
  · left; cases h; show some (V.bool (decide ((x : Int) ≥ y))) = _; rw [bool_iff (a := Nat.ble y x) (by rw [Nat.ble_eq]; omega)]
  · left; cases h; show some (V.bool ((x : Int) == y)) = _
    congr 2
    rw [Bool.eq_iff_iff, beq_iff_eq, Nat.beq_eq]; omega
  · left; cases h; show some (V.bool ((x : Int) != y)) = _
    congr 2
    show (!((x : Int) == y)) = _
    congr 1
    rw [Bool.eq_iff_iff, beq_iff_eq, Nat.beq_eq]; omega
  · right
    rw [brec] at h
    obtain ⟨h1, h2⟩ := bif_some' h
    cases h2
    refine ⟨rfl, ?_⟩
    have h1 := Nat.le_of_ble_eq_true h1
    rw [Int.toNat_natCast, Nat.min_eq_left h1]
    congr 1
    show ((x >>> y : Nat) : Int) = _
    rw [Nat.shiftRight_eq_div_pow]
    rw [Int.fdiv_eq_ediv_of_nonneg _ (by exact_mod_cast Nat.zero_le (2 ^ y))]
    push_cast
    rfl
  · cases h

noncomputable def fastBin (o : BinOp) (k : IntKind) (a b : Int) : Option V := Int.rec (motive := fun _ => Option V) (fun x => Int.rec (motive := fun _ => Option V) (fun y => natBin o k x y) (fun _ => none) b) (fun _ => none) a

noncomputable def wrapF (k : IntKind) (a : Int) : Int := Int.rec (motive := fun _ => Int) (fun m => Bool.rec (motive := fun _ => Int) (k.wrap (.ofNat m)) (.ofNat m) (Nat.blt m (limN k))) (fun m => k.wrap (.negSucc m)) a
theorem wrapF_eq (k : IntKind) (a : Int) : wrapF k a = k.wrap a := by
  cases a with
  | negSucc m => rfl
  | ofNat m =>
    show Bool.rec (motive := fun _ => Int) (k.wrap (.ofNat m)) (.ofNat m) (Nat.blt m (limN k)) = _
    cases h : Nat.blt m (limN k) with
    | false => rfl
    | true => exact (wrapN h).symm

noncomputable def kidx (k : IntKind) : Nat := IntKind.rec 0 1 2 3 4 5 6 7 k
theorem kidx_eq {k k' : IntKind} (h : Nat.beq (kidx k) (kidx k') = true) : k = k' := by
  cases k <;> cases k' <;> first | rfl | cases h

/-! ## Equality -/

/-- An array of integers of one kind. -/
noncomputable def intArr (P : Program) (t : TypeId) : Option (Nat × IntKind) := match P.underlying t with
  | some (.array n el) => match P.underlying el, P.info? el with
    | some (.int k), some inf => bif Nat.beq inf.size 1 && !(P.eqGuardType P.depth t) then some (n, k) else none
    | _, _ => none
  | _ => none

noncomputable def intsOf (k : IntKind) : List V → Option (List Int)
  | [] => some []
  | .int k' a :: r => if k' = k then (match intsOf k r with | some l => some (a :: l) | none => none) else none
  | _ :: _ => none

theorem intsOf_conc {k : IntKind} {S : Si} : ∀ {l : List V} {zs : List Int}, intsOf k l = some zs → concs S l = zs.map (.int k)
  | [], zs, h => by cases h; rfl
  | .int k' a :: r, zs, h => by
    simp only [intsOf] at h
    split at h
    · rename_i hk
      split at h
      · rename_i l hl
        cases h
        rw [concs, intsOf_conc hl, hk]; rfl
      · cases h
    · cases h
  | .bool _ :: _, _, h | .str _ :: _, _, h | .ptr _ _ :: _, _, h | .nilptr :: _, _, h | .slc _ _ _ _ :: _, _, h | .nilslc :: _, _, h | .map _ :: _, _, h | .nilmap :: _, _, h | .fn _ _ :: _, _, h
  | .nilfn :: _, _, h | .iface _ _ :: _, _, h | .nilif :: _, _, h | .agg _ :: _, _, h | .tup _ :: _, _, h | .lin _ _ _ _ :: _, _, h | .any :: _, _, h => by cases h

theorem Ev.intsEq {P : Program} {w : World} {e : Env} {ty t t' : TypeId} {x y : Operand} {n : Nat} {k : IntKind} {xs ys : List Int} (hx : e.val x = some (.agg (xs.map (.int k)).toArray)) (hy : e.val y = some (.agg (ys.map (.int k)).toArray))
    (ht : intArr P t = some (n, k)) (h1 : xs.length = n) (h2 : ys.length = n) (o : BinOp) (b : Bool) (ho : o = .eql ∧ b = (xs == ys) ∨ o = .neq ∧ b = !(xs == ys)) : Ev P w e (.binOp o t x y t') ty (.bool b) := .of fun ρ hρ _ _ _ _ => by
  unfold intArr at ht
  split at ht
  · rename_i n' el hu
    split at ht
    · rename_i k' inf hk hi
      cases hb : (Nat.beq inf.size 1 && !(P.eqGuardType P.depth t)) with
      | false => rw [hb] at ht; cases ht
      | true =>
        rw [hb] at ht
        simp only [cond_true, Option.some.injEq, Prod.mk.injEq] at ht
        obtain ⟨rfl, rfl⟩ := ht
        rw [Bool.and_eq_true] at hb
        have hg : P.eqGuardType P.depth t = false := by simpa using hb.2
        have hs : inf.size = 1 := by simpa using hb.1
        have he := run_equal_bytes (w := w) hu hk hi hs h1 h2
        rcases ho with ⟨rfl, rfl⟩ | ⟨rfl, rfl⟩
        · simp [execOp, hρ _ _ hx, hρ _ _ hy, eqGuard, binOp, hg, he]
        · simp [execOp, hρ _ _ hx, hρ _ _ hy, eqGuard, binOp, hg, he]
    · cases ht
  · cases ht

noncomputable def eqO (o : BinOp) (b : Bool) : Option V := match o with
  | .eql => some (.bool b)
  | .neq => some (.bool (!b))
  | _ => none

noncomputable def isPtr (P : Program) (t : TypeId) : Bool := match P.underlying t with | some (.pointer _) => true | _ => false
noncomputable def isSl (P : Program) (t : TypeId) : Bool := match P.underlying t with | some (.slice _) => true | _ => false
noncomputable def isIf (P : Program) (t : TypeId) : Bool := match P.underlying t with | some (.interface _) => true | _ => false
noncomputable def isBool (P : Program) (t : TypeId) : Bool := match P.underlying t with | some .bool => true | _ => false
noncomputable def isStr (P : Program) (t : TypeId) : Bool := match P.underlying t with | some .string => true | _ => false
noncomputable def nilC : Operand → Bool | .const .nilIface => true | _ => false

theorem isPtr_spec {P : Program} {t : TypeId} (h : isPtr P t = true) : ∃ el, P.underlying t = some (.pointer el) := by
  unfold isPtr at h; split at h <;> first | exact ⟨_, ‹_›⟩ | cases h
theorem isSl_spec {P : Program} {t : TypeId} (h : isSl P t = true) : ∃ el, P.underlying t = some (.slice el) := by
  unfold isSl at h; split at h <;> first | exact ⟨_, ‹_›⟩ | cases h
theorem isIf_spec {P : Program} {t : TypeId} (h : isIf P t = true) : ∃ el, P.underlying t = some (.interface el) := by
  unfold isIf at h; split at h <;> first | exact ⟨_, ‹_›⟩ | cases h
theorem isBool_spec {P : Program} {t : TypeId} (h : isBool P t = true) : P.underlying t = some .bool := by
  unfold isBool at h; split at h <;> first | assumption | cases h
theorem isStr_spec {P : Program} {t : TypeId} (h : isStr P t = true) : P.underlying t = some .string := by
  unfold isStr at h; split at h <;> first | assumption | cases h
theorem nilC_spec {x : Operand} (h : nilC x = true) : x = .const .nilIface := by
  unfold nilC at h; split at h <;> first | rfl | cases h

noncomputable def shiftV (o : BinOp) (k : IntKind) (a b : Int) : Option V := match o with
  | .shr => if 0 ≤ b then some (.int k (a.fdiv (2 ^ (min b.toNat k.bits)))) else none
  | .shl => if 0 ≤ b then some (.int k (k.wrap (a * 2 ^ (min b.toNat k.bits)))) else none
  | _ => none

noncomputable def bitsV (o : BinOp) (k : IntKind) (a b : Int) : Option V := match o with
  | .or => some (.int k (k.wrap (BitVec.ofInt k.bits a ||| BitVec.ofInt k.bits b).toNat))
  | .and => some (.int k (k.wrap (BitVec.ofInt k.bits a &&& BitVec.ofInt k.bits b).toNat))
  | .xor => some (.int k (k.wrap (BitVec.ofInt k.bits a ^^^ BitVec.ofInt k.bits b).toNat))
  | _ => shiftV o k a b

/-! ## Numbers of which a part isn't known -/

/-- The least that such a number may be. -/
def linMin (a b c d : Int) : Int :=
  let d1 := if c < 0 then d + 89 * c else d
  let a1 := if b < 0 then a + b else a
  let d2 := if b < 0 then d1 + 50 * b else d1
  if a1 < 0 then d2 + 299 * a1 else d2

theorem mul_lo {c x m : Int} (h0 : 0 ≤ x) (hm : x ≤ m) : (c < 0 → m * c ≤ c * x) ∧ (0 ≤ c → 0 ≤ c * x) := by
  refine ⟨fun h => ?_, fun h => Int.mul_nonneg h h0⟩
  have := Int.mul_le_mul_of_nonpos_left (show c ≤ 0 by omega) hm
  rw [Int.mul_comm m c]; exact this

theorem linMin_le (S : Si) (a b c d : Int) : linMin a b c d ≤ linC S a b c d := by
  unfold linMin linC
  have x0 : 0 ≤ X0 S ∧ X0 S ≤ 299 := by unfold X0; omega
  have x1 : 0 ≤ X1 S ∧ X1 S ≤ 50 + X0 S := by
    unfold X1 X0
    have := Nat.mod_lt (S.k 1) (y := 51 + S.k 0 % 18446744073709551616 % 300) (by omega)
    omega
  have x2 : 0 ≤ X2 S ∧ X2 S ≤ 89 := by unfold X2; omega
  generalize X0 S = x at x0 x1 ⊢
  generalize X1 S = y at x1 ⊢
  generalize X2 S = z at x2 ⊢
  have hc := mul_lo (c := c) x2.1 x2.2
  have hb := mul_lo (c := b) x1.1 x1.2
  have ha := mul_lo (c := a) x0.1 x0.2
  have hab := mul_lo (c := a + b) x0.1 x0.2
  have e1 : (a + b) * x = a * x + b * x := Int.add_mul _ _ _
  have e2 : (50 + x) * b = 50 * b + b * x := by rw [Int.add_mul, Int.mul_comm x b]
  rw [e2] at hb
  rw [e1] at hab
  generalize c * z = cz at *
  generalize b * y = bz at *
  generalize a * x = ax at *
  generalize b * x = bx at *
  simp only
  split <;> split <;> split <;> omega

def linSub (a b c d a' b' c' d' e : Int) : Int := linMin (a - a') (b - b') (c - c') (d - d' + e)
theorem linSub_le (S : Si) (a b c d a' b' c' d' e : Int) : linSub a b c d a' b' c' d' e ≤ linC S a b c d - linC S a' b' c' d' + e := by
  have := linMin_le S (a - a') (b - b') (c - c') (d - d' + e)
  unfold linSub
  refine Int.le_trans this ?_
  unfold linC
  simp only [Int.sub_mul]
  omega

noncomputable def linMk (a b c d : Int) : Option V := bif decide (-9223372036854775808 ≤ linMin a b c d) && decide (-9223372036854775807 ≤ linMin (-a) (-b) (-c) (-d)) then (bif decide (a = 0) && (decide (b = 0) && decide (c = 0)) then some (.int .i64 d) else some (.lin a b c d)) else none

theorem wrap_fit {n : Int} (h1 : -9223372036854775808 ≤ n) (h2 : n ≤ 9223372036854775807) : IntKind.i64.wrap n = n := by
  simp only [IntKind.wrap, IntKind.bits, IntKind.signed, Bool.true_and]
  split
  · rename_i h; have h := of_decide_eq_true h; omega
  · rename_i h
    have h : ¬ n % 2 ^ 64 ≥ 2 ^ (64 - 1) := fun h' => h (decide_eq_true h')
    omega

theorem linMk_spec {a b c d : Int} {v : V} (h : linMk a b c d = some v) (S : Si) : v.conc S = .int .i64 (IntKind.i64.wrap (linC S a b c d)) ∧ ∀ n : Dm, (a = 0 ∧ b = 0 ∨ n 0) → (b = 0 ∨ n 1) → (c = 0 ∨ n 2) → v.ok n := by
  unfold linMk at h
  obtain ⟨h1, h2⟩ := bif_some' h
  simp only [Bool.and_eq_true, decide_eq_true_eq] at h1
  have b1 := linMin_le S a b c d
  have b2 := linMin_le S (-a) (-b) (-c) (-d)
  have e : linC S (-a) (-b) (-c) (-d) = - linC S a b c d := by
    unfold linC
    simp only [Int.neg_mul]; omega
  rw [wrap_fit (by omega) (by omega)]
  cases hb : (decide (a = 0) && (decide (b = 0) && decide (c = 0))) with
  | true =>
    rw [hb] at h2
    simp only [Bool.and_eq_true, decide_eq_true_eq] at hb
    cases h2
    refine ⟨?_, fun _ _ _ _ => True.intro⟩
    rw [V.conc, linC, hb.1, hb.2.1, hb.2.2]; simp
  | false => rw [hb] at h2; cases h2; exact ⟨rfl, fun _ h h' h'' => ⟨h, h', h''⟩⟩

theorem or_two {p q r n : Prop} (h : p ∨ n) (h' : q ∨ n) (hr : p → q → r) : r ∨ n := h.elim (fun h => h'.imp (hr h) id) .inr

/-- What is told of a comparison: that it is so; that it isn't; nothing. -/
noncomputable def tellV (y n : Bool) : Option V := bif y then some (.bool true) else bif n then some (.bool false) else none
theorem tellV_spec {y n : Bool} {v : V} (h : tellV y n = some v) : (y = true ∧ v = .bool true) ∨ (n = true ∧ v = .bool false) := by
  unfold tellV at h
  cases y with
  | true => cases h; exact .inl ⟨rfl, rfl⟩
  | false => cases n with
    | true => cases h; exact .inr ⟨rfl, rfl⟩
    | false => cases h

noncomputable def linBin (o : BinOp) (a b c d a' b' c' d' : Int) : Option V := match o with
  | .add => linMk (a + a') (b + b') (c + c') (d + d')
  | .sub => linMk (a - a') (b - b') (c - c') (d - d')
  | .lss => tellV (decide (0 ≤ linSub a' b' c' d' a b c d (-1))) (decide (0 ≤ linSub a b c d a' b' c' d' 0))
  | .leq => tellV (decide (0 ≤ linSub a' b' c' d' a b c d 0)) (decide (0 ≤ linSub a b c d a' b' c' d' (-1)))
  | .gtr => tellV (decide (0 ≤ linSub a b c d a' b' c' d' (-1))) (decide (0 ≤ linSub a' b' c' d' a b c d 0))
  | .geq => tellV (decide (0 ≤ linSub a b c d a' b' c' d' 0)) (decide (0 ≤ linSub a' b' c' d' a b c d (-1)))
  | .eql => tellV (decide (a = a') && (decide (b = b') && (decide (c = c') && decide (d = d')))) (decide (0 ≤ linSub a' b' c' d' a b c d (-1)) || decide (0 ≤ linSub a b c d a' b' c' d' (-1)))
  | .neq => tellV (decide (0 ≤ linSub a' b' c' d' a b c d (-1)) || decide (0 ≤ linSub a b c d a' b' c' d' (-1))) (decide (a = a') && (decide (b = b') && (decide (c = c') && decide (d = d'))))
  | _ => none

theorem linC_add (S : Si) (a b c d a' b' c' d' : Int) : linC S a b c d + linC S a' b' c' d' = linC S (a + a') (b + b') (c + c') (d + d') := by
  unfold linC; simp only [Int.add_mul]; omega
theorem linC_sub (S : Si) (a b c d a' b' c' d' : Int) : linC S a b c d - linC S a' b' c' d' = linC S (a - a') (b - b') (c - c') (d - d') := by
  unfold linC; simp only [Int.sub_mul]; omega

theorem linBin_spec {P : Program} {w : World} {e : Env} {ty t t' : TypeId} {x y : Operand} {o : BinOp} {a b c d a' b' c' d' : Int} {v : V} (h : linBin o a b c d a' b' c' d' = some v) (S : Si) (hx : e.val x = some (.int .i64 (linC S a b c d))) (hy : e.val y = some (.int .i64 (linC S a' b' c' d'))) {n : Dm} (h0 : a = 0 ∧ b = 0 ∨ n 0) (h1 : b = 0 ∨ n 1) (h2 : c = 0 ∨ n 2) (h0' : a' = 0 ∧ b' = 0 ∨ n 0) (h1' : b' = 0 ∨ n 1) (h2' : c' = 0 ∨ n 2) :
    Ev P w e (.binOp o t x y t') ty (v.conc S) ∧ v.ok n := by
  have s1 := fun z => linSub_le S a b c d a' b' c' d' z
  have s2 := fun z => linSub_le S a' b' c' d' a b c d z
  unfold linBin at h
  split at h
  · obtain ⟨g1, g2⟩ := linMk_spec h S
    refine ⟨?_, g2 _ (or_two h0 h0' fun _ _ => by omega) (or_two h1 h1' fun _ _ => by omega) (or_two h2 h2' fun _ _ => by omega)⟩
    rw [g1]
    exact Ev.add hx hy (congrArg _ (linC_add S a b c d a' b' c' d'))
  · obtain ⟨g1, g2⟩ := linMk_spec h S
    refine ⟨?_, g2 _ (or_two h0 h0' fun _ _ => by omega) (or_two h1 h1' fun _ _ => by omega) (or_two h2 h2' fun _ _ => by omega)⟩
    rw [g1]
    exact Ev.sub hx hy (congrArg _ (linC_sub S a b c d a' b' c' d'))
  · have := s2 (-1); have := s1 0
    rcases tellV_spec h with ⟨g, rfl⟩ | ⟨g, rfl⟩ <;> have g := of_decide_eq_true g
    · exact ⟨Ev.lss hx hy (decide_eq_true (by omega)), True.intro⟩
    · exact ⟨Ev.lss hx hy (decide_eq_false (by omega)), True.intro⟩
  · have := s2 0; have := s1 (-1)
    rcases tellV_spec h with ⟨g, rfl⟩ | ⟨g, rfl⟩ <;> have g := of_decide_eq_true g
    · exact ⟨Ev.leq hx hy (decide_eq_true (by omega)), True.intro⟩
    · exact ⟨Ev.leq hx hy (decide_eq_false (by omega)), True.intro⟩
  · have := s2 0; have := s1 (-1)
    rcases tellV_spec h with ⟨g, rfl⟩ | ⟨g, rfl⟩ <;> have g := of_decide_eq_true g
    · exact ⟨Ev.gtr hx hy (decide_eq_true (by omega)), True.intro⟩
    · exact ⟨Ev.gtr hx hy (decide_eq_false (by omega)), True.intro⟩
  · have := s2 (-1); have := s1 0
    rcases tellV_spec h with ⟨g, rfl⟩ | ⟨g, rfl⟩ <;> have g := of_decide_eq_true g
    · exact ⟨Ev.geq hx hy (decide_eq_true (by omega)), True.intro⟩
    · exact ⟨Ev.geq hx hy (decide_eq_false (by omega)), True.intro⟩
  · have := s2 (-1); have := s1 (-1)
    rcases tellV_spec h with ⟨g, rfl⟩ | ⟨g, rfl⟩
    · simp only [Bool.and_eq_true, decide_eq_true_eq] at g
      obtain ⟨rfl, rfl, rfl, rfl⟩ := g
      exact ⟨Ev.eql hx hy (by simp), True.intro⟩
    · simp only [Bool.or_eq_true, decide_eq_true_eq] at g
      have hne : linC S a b c d ≠ linC S a' b' c' d' := by omega
      exact ⟨Ev.eql hx hy (by simp [hne]), True.intro⟩
  · have := s2 (-1); have := s1 (-1)
    rcases tellV_spec h with ⟨g, rfl⟩ | ⟨g, rfl⟩
    · simp only [Bool.or_eq_true, decide_eq_true_eq] at g
      have hne : linC S a b c d ≠ linC S a' b' c' d' := by omega
      exact ⟨Ev.neq hx hy (by simp [hne]), True.intro⟩
    · simp only [Bool.and_eq_true, decide_eq_true_eq] at g
      obtain ⟨rfl, rfl, rfl, rfl⟩ := g
      exact ⟨Ev.neq hx hy (by simp), True.intro⟩
  · cases h

theorem linC_int (S : Si) (n : Int) : linC S 0 0 0 n = n := by simp [linC]

noncomputable def bin (P : Program) (o : BinOp) (t : TypeId) (y : Operand) : V → V → Option V
  | .int k a, .int k' b => Bool.rec (motive := fun _ => Option V) (shiftV o k a b) (match fastBin o k a b with
      | some v => some v
      | none => (match intBin o k a b with
        | some v => some v
        | none => bitsV o k a b)) (Nat.beq (kidx k) (kidx k'))
  | .str a, .str b => match o with
    | .eql => some (.bool (a == b))
    | .neq => some (.bool (!(a == b)))
    | .add => bif Nat.ble (a.length + b.length) 9223372036854775807 then some (.str (a ++ b)) else none
    | _ => none
  | .bool a, .bool b => bif isBool P t then eqO o (a == b) else none
  | .ptr _ _, .nilptr => bif isPtr P t then eqO o false else none
  | .nilptr, .nilptr => bif isPtr P t then eqO o true else none
  | .slc _ _ _ _, .nilslc => bif isSl P t then eqO o false else none
  | .nilslc, .nilslc => bif isSl P t then eqO o true else none
  | .iface _ _, .nilif => bif isIf P t && nilC y then eqO o false else none
  | .nilif, .nilif => bif isIf P t && nilC y then eqO o true else none
  | .agg xs, .agg ys => match intArr P t with
    | some (n, k) => match intsOf k xs, intsOf k ys with
      | some zs, some us => bif Nat.beq zs.length n && Nat.beq us.length n then eqO o (zs == us) else none
      | _, _ => none
    | none => none
  | .lin a b c d, .lin a' b' c' d' => linBin o a b c d a' b' c' d'
  | .lin a b c d, .int k m => bif Nat.beq (kidx k) 3 then linBin o a b c d 0 0 0 m else none
  | .int k m, .lin a b c d => bif Nat.beq (kidx k) 3 then linBin o 0 0 0 m a b c d else none
  | _, _ => none

theorem eqO_spec {o : BinOp} {b : Bool} {v : V} (h : eqO o b = some v) : (o = .eql ∧ v = .bool b) ∨ (o = .neq ∧ v = .bool (!b)) := by
  unfold eqO at h
  split at h <;> first | (cases h; exact .inl ⟨rfl, rfl⟩) | (cases h; exact .inr ⟨rfl, rfl⟩) | cases h

theorem bif_some {α : Type} {c : Bool} {x : Option α} {v : α} (h : (bif c then x else none) = some v) : c = true ∧ x = some v := by
  cases c <;> first | exact ⟨rfl, h⟩ | cases h

theorem if_some {α : Type} {c : Prop} [Decidable c] {x : Option α} {v : α} (h : (if c then x else none) = some v) : c ∧ x = some v := by
  split at h <;> first | exact ⟨‹_›, h⟩ | cases h

theorem bif_true {c d : Bool} (h : (bif c then d else false) = true) : c = true ∧ d = true := by
  cases c <;> first | exact ⟨rfl, h⟩ | cases h

theorem bytes_app (a b : List UInt8) : ((⟨a.toArray⟩ : ByteArray) ++ ⟨b.toArray⟩) = ⟨(a ++ b).toArray⟩ := by
  apply ByteArray.ext
  simp

theorem bin_spec {P : Program} {w : World} {e : En} {ty t t' : TypeId} {x y : Operand} {o : BinOp} {u u' v : V} {n : Dm} (h : bin P o t y u u' = some v) (hx : e.val x = some u) (hy : e.val y = some u') (hk : e.ok n) (S : Si) :
    Ev P w (e.conc S) (.binOp o t x y t') ty (v.conc S) ∧ v.ok n := by
  have hx' := (En.val_conc (S := S) hx hk).1
  have hy' := (En.val_conc (S := S) hy hk).1
  unfold bin at h
  split at h
  · rename_i k a k' b
    have sh : ∀ {v : V}, shiftV o k a b = some v → Ev P w (e.conc S) (.binOp o t x y t') ty (v.conc S) ∧ v.ok n := fun {v} h2 => by
      unfold shiftV at h2
      split at h2
      · obtain ⟨hb, h2⟩ := if_some h2
        cases h2
        exact ⟨Ev.shr hx' hy' hb rfl, True.intro⟩
      · obtain ⟨hb, h2⟩ := if_some h2
        cases h2
        exact ⟨Ev.shl hx' hy' hb rfl, True.intro⟩
      · cases h2
    rw [brec] at h
    cases hk2 : Nat.beq (kidx k) (kidx k') with
    | false => rw [hk2] at h; exact sh h
    | true =>
      rw [hk2] at h
      have hk2 := kidx_eq hk2
      subst hk2
      simp only [cond_true] at h
      split at h
      · rename_i h2
        cases h
        cases a with
        | ofNat x =>
          cases b with
          | ofNat y =>
            rcases natBin_ok h2 with h3 | ⟨rfl, rfl⟩
            · exact intBin_spec h3 hx' hy' S n
            · exact ⟨Ev.shr hx' hy' (by simp) rfl, True.intro⟩
          | negSucc y => cases h2
        | negSucc x => cases h2
      · split at h
        · rename_i h2
          cases h
          exact intBin_spec h2 hx' hy' S n
        · unfold bitsV at h
          split at h
          · cases h; exact ⟨Ev.or hx' hy' rfl, True.intro⟩
          · cases h; exact ⟨Ev.and hx' hy' rfl, True.intro⟩
          · cases h; exact ⟨Ev.xor hx' hy' rfl, True.intro⟩
          · exact sh h
  · split at h
    · cases h; exact ⟨Ev.strEqB hx' hy', True.intro⟩
    · cases h; exact ⟨Ev.strNeB hx' hy', True.intro⟩
    · obtain ⟨hl, h2⟩ := bif_some h
      cases h2
      have hl' := Nat.le_of_ble_eq_true hl
      rw [V.conc] at hx' hy'
      have := Ev.strAdd (P := P) (w := w) (ty := ty) (t := t) (t' := t') hx' hy' (by simpa [ByteArray.size] using hl')
      rw [bytes_app] at this
      exact ⟨this, True.intro⟩
    · cases h
  · obtain ⟨hb, h2⟩ := bif_some h
    rcases eqO_spec h2 with ⟨rfl, rfl⟩ | ⟨rfl, rfl⟩
    · exact ⟨Ev.boolEq hx' hy' (isBool_spec hb) rfl, True.intro⟩
    · exact ⟨Ev.boolNe hx' hy' (isBool_spec hb) rfl, True.intro⟩
  · obtain ⟨hb, h2⟩ := bif_some h
    obtain ⟨el, he⟩ := isPtr_spec hb
    rcases eqO_spec h2 with ⟨rfl, rfl⟩ | ⟨rfl, rfl⟩
    · exact ⟨Ev.ptrNilEq hx' hy' he, True.intro⟩
    · exact ⟨Ev.ptrNilNe hx' hy' he, True.intro⟩
  · obtain ⟨hb, h2⟩ := bif_some h
    obtain ⟨el, he⟩ := isPtr_spec hb
    rcases eqO_spec h2 with ⟨rfl, rfl⟩ | ⟨rfl, rfl⟩
    · exact ⟨Ev.ptrNilEq hx' hy' he, True.intro⟩
    · exact ⟨Ev.ptrNilNe hx' hy' he, True.intro⟩
  · obtain ⟨hb, h2⟩ := bif_some h
    obtain ⟨el, he⟩ := isSl_spec hb
    rcases eqO_spec h2 with ⟨rfl, rfl⟩ | ⟨rfl, rfl⟩
    · exact ⟨Ev.slNilEq hx' hy' he, True.intro⟩
    · exact ⟨Ev.slNilNe hx' hy' he, True.intro⟩
  · obtain ⟨hb, h2⟩ := bif_some h
    obtain ⟨el, he⟩ := isSl_spec hb
    rcases eqO_spec h2 with ⟨rfl, rfl⟩ | ⟨rfl, rfl⟩
    · exact ⟨Ev.slNilEq hx' hy' he, True.intro⟩
    · exact ⟨Ev.slNilNe hx' hy' he, True.intro⟩
  · obtain ⟨hb, h2⟩ := bif_some h
    rw [Bool.and_eq_true] at hb
    obtain ⟨el, he⟩ := isIf_spec hb.1
    have hn := nilC_spec hb.2
    subst hn
    rcases eqO_spec h2 with ⟨rfl, rfl⟩ | ⟨rfl, rfl⟩
    · exact ⟨Ev.ifNilEq hx' he, True.intro⟩
    · exact ⟨Ev.ifNilNe hx' he, True.intro⟩
  · obtain ⟨hb, h2⟩ := bif_some h
    rw [Bool.and_eq_true] at hb
    obtain ⟨el, he⟩ := isIf_spec hb.1
    have hn := nilC_spec hb.2
    subst hn
    rcases eqO_spec h2 with ⟨rfl, rfl⟩ | ⟨rfl, rfl⟩
    · exact ⟨Ev.ifNilEqT hx' he, True.intro⟩
    · exact ⟨Ev.ifNilNeF hx' he, True.intro⟩
  · split at h
    · rename_i m k hm
      split at h
      · rename_i zs us hz hu
        obtain ⟨hb, h2⟩ := bif_some h
        rw [Bool.and_eq_true] at hb
        rw [V.conc, intsOf_conc hz] at hx'
        rw [V.conc, intsOf_conc hu] at hy'
        have h3 : zs.length = m := by simpa using hb.1
        have h4 : us.length = m := by simpa using hb.2
        rcases eqO_spec h2 with ⟨rfl, rfl⟩ | ⟨rfl, rfl⟩
        · exact ⟨Ev.intsEq hx' hy' hm h3 h4 _ _ (.inl ⟨rfl, rfl⟩), True.intro⟩
        · exact ⟨Ev.intsEq hx' hy' hm h3 h4 _ _ (.inr ⟨rfl, rfl⟩), True.intro⟩
      · cases h
    · cases h
  · obtain ⟨k0, k1, k2⟩ := (En.val_conc (S := S) hx hk).2
    obtain ⟨k3, k4, k5⟩ := (En.val_conc (S := S) hy hk).2
    exact linBin_spec h S hx' hy' k0 k1 k2 k3 k4 k5
  · obtain ⟨hb, h2⟩ := bif_some h
    obtain rfl := kidx_eq (k' := .i64) hb
    obtain ⟨k0, k1, k2⟩ := (En.val_conc (S := S) hx hk).2
    exact linBin_spec h2 S hx' (by rw [linC_int]; exact hy') k0 k1 k2 (.inl ⟨rfl, rfl⟩) (.inl rfl) (.inl rfl)
  · obtain ⟨hb, h2⟩ := bif_some h
    obtain rfl := kidx_eq (k' := .i64) hb
    obtain ⟨k0, k1, k2⟩ := (En.val_conc (S := S) hy hk).2
    exact linBin_spec h2 S (by rw [linC_int]; exact hx') hy' (.inl ⟨rfl, rfl⟩) (.inl rfl) (.inl rfl) k0 k1 k2
  · cases h

end Go.K
end

section
/-
  A way to run code by reckoning (IV): all operations that yield a value and need no memory.
-/
namespace Go.K
open Go.Proofs.YtdppnaahdilkcaaGreatDoor.V

/-! ## Cells put in place -/

def putL (cs : List V) (off : Nat) (vs : List V) : List V := cs.take off ++ (vs ++ cs.drop (off + vs.length))
/-- The same, for the kernel. -/
noncomputable def putR (cs : List V) (off : Nat) (vs : List V) : List V := appR (takeR cs off) (appR vs (dropR cs (off + lenR vs)))
theorem putR_eq (cs : List V) (off : Nat) (vs : List V) : putR cs off vs = putL cs off vs := by simp only [putR, putL, appR_eq, takeR_eq, dropR_eq, lenR_eq]

theorem concs_append (S : Si) (a b : List V) : concs S (a ++ b) = concs S a ++ concs S b := by simp [concs_map]
theorem concs_len (S : Si) (a : List V) : (concs S a).length = a.length := by simp [concs_map]

theorem putL_conc {S : Si} {cs vs : List V} {off : Nat} (h : off + vs.length ≤ cs.length) : putAt (concs S cs).toArray off (concs S vs) = (concs S (putL cs off vs)).toArray := by
  have e1 : cs = cs.take off ++ ((cs.drop off).take vs.length ++ cs.drop (off + vs.length)) := by
    rw [← List.drop_drop, List.take_append_drop, List.take_append_drop]
  have := putAt_append (pre := concs S (cs.take off)) (mid := concs S ((cs.drop off).take vs.length)) (post := concs S (cs.drop (off + vs.length))) (vs := concs S vs) (off := off)
    (by rw [concs_len, List.length_take]; omega) (by rw [concs_len, concs_len, List.length_take, List.length_drop]; omega)
  rw [← concs_append, ← concs_append, List.append_assoc, ← e1] at this
  rw [this, putL, concs_append, concs_append, List.append_assoc]

theorem putL_len {cs vs : List V} {off : Nat} (h : off + vs.length ≤ cs.length) : (putL cs off vs).length = cs.length := by
  simp only [putL, List.length_append, List.length_take, List.length_drop]; omega

theorem oks_append {n : Dm} {a b : List V} (ha : oks n a) (hb : oks n b) : oks n (a ++ b) := oks_iff.2 fun v hv => by
  rcases List.mem_append.1 hv with h | h
  · exact oks_iff.1 ha v h
  · exact oks_iff.1 hb v h
theorem oks_sub {n : Dm} {a b : List V} (hb : oks n b) (h : ∀ v ∈ a, v ∈ b) : oks n a := oks_iff.2 fun v hv => oks_iff.1 hb v (h v hv)

theorem putL_ok {n : Dm} {cs vs : List V} (off : Nat) (hc : oks n cs) (hv : oks n vs) : oks n (putL cs off vs) :=
  oks_append (oks_sub hc fun _ h => List.mem_of_mem_take h) (oks_append hv (oks_sub hc fun _ h => List.mem_of_mem_drop h))

theorem ones_append {a b : List V} (ha : ones a = true) (hb : ones b = true) : ones (a ++ b) = true := by
  simp only [ones, List.all_append, Bool.and_eq_true] at *; exact ⟨ha, hb⟩
theorem ones_sub {a b : List V} (hb : ones b = true) (h : ∀ v ∈ a, v ∈ b) : ones a = true := by
  simp only [ones, List.all_eq_true] at *; exact fun v hv => hb v (h v hv)
theorem putL_one {cs vs : List V} (off : Nat) (hc : ones cs = true) (hv : ones vs = true) : ones (putL cs off vs) = true :=
  ones_append (ones_sub hc fun _ h => List.mem_of_mem_take h) (ones_append hv (ones_sub hc fun _ h => List.mem_of_mem_drop h))

noncomputable def fillV (pl : Nat → Option (Nat × Nat)) (cs : List V) (l : List (Nat × V)) : Option (List V) := List.rec (motive := fun _ => List V → Option (List V)) (fun cs => some cs) (fun p _ ih cs => match pl p.1 with
    | none => none
    | some (off, sz) => bif Nat.beq (lenR p.2.cells) sz && Nat.ble (off + sz) (lenR cs) then ih (putR cs off p.2.cells) else none) l cs
theorem fillV_cons {pl : Nat → Option (Nat × Nat)} {cs : List V} {i : Nat} {v : V} {r : List (Nat × V)} : fillV pl cs ((i, v) :: r) = match pl i with
    | none => none
    | some (off, sz) => bif Nat.beq v.cells.length sz && Nat.ble (off + sz) cs.length then fillV pl (putL cs off v.cells) r else none := by
  show (match pl i with
    | none => none
    | some (off, sz) => bif Nat.beq (lenR v.cells) sz && Nat.ble (off + sz) (lenR cs) then fillV pl (putR cs off v.cells) r else none) = _
  simp only [lenR_eq, putR_eq]

theorem fillV_spec {pl : Nat → Option (Nat × Nat)} {S : Si} {n : Dm} : ∀ {ps : List (Nat × V)} {cs r : List V}, fillV pl cs ps = some r → (∀ p ∈ ps, p.2.ok n) → oks n cs →
    fillP pl (concs S cs).toArray (ps.map fun p => (p.1, p.2.conc S)) = some (concs S r).toArray ∧ oks n r
  | [], cs, r, h, _, hc => by cases h; exact ⟨rfl, hc⟩
  | (i, v) :: ps, cs, r, h, hp, hc => by
    rw [fillV_cons] at h
    split at h
    · cases h
    · rename_i off sz hpl
      obtain ⟨hb, h2⟩ := bif_some h
      rw [Bool.and_eq_true] at hb
      have h3 : v.cells.length = sz := by simpa using hb.1
      have h4 : off + sz ≤ cs.length := Nat.le_of_ble_eq_true hb.2
      obtain ⟨h5, h6⟩ := fillV_spec (S := S) h2 (fun p hp' => hp p (.tail _ hp')) (putL_ok off hc (V.cells_ok (hp _ (.head _))))
      refine ⟨?_, h6⟩
      rw [List.map_cons, fillP, hpl]
      simp only
      rw [V.cells_conc]
      rw [if_pos ⟨by simp [concs_len, h3], by simp [concs_len, h4]⟩]
      show fillP pl (putAt (concs S cs).toArray off (concs S v.cells)) _ = _
      rw [putL_conc (by omega)]
      exact h5

noncomputable def En.partsI (e : En) (l : List (Nat × Operand)) : Option (List (Nat × V)) := List.rec (motive := fun _ => Option (List (Nat × V))) (some []) (fun p _ ih => match e.val p.2 with
    | none => none
    | some v => match ih with
      | none => none
      | some vs => some ((p.1, v) :: vs)) l
theorem En.partsI_cons {e : En} {i : Nat} {x : Operand} {r : List (Nat × Operand)} : e.partsI ((i, x) :: r) = match e.val x with
    | none => none
    | some v => match e.partsI r with
      | none => none
      | some vs => some ((i, v) :: vs) := rfl

theorem En.partsI_conc {S : Si} {n : Dm} {e : En} (hk : e.ok n) : ∀ {l : List (Nat × Operand)} {ps : List (Nat × V)}, e.partsI l = some ps → (e.conc S).partsI l = some (ps.map fun p => (p.1, p.2.conc S)) ∧ ∀ p ∈ ps, p.2.ok n
  | [], ps, h => by cases h; exact ⟨rfl, by simp⟩
  | (i, x) :: r, ps, h => by
    rw [En.partsI_cons] at h
    split at h
    · cases h
    · rename_i v hv
      split at h
      · cases h
      · rename_i us hu
        cases h
        obtain ⟨h1, h2⟩ := En.val_conc (S := S) hv hk
        obtain ⟨h3, h4⟩ := En.partsI_conc (S := S) hk hu
        refine ⟨by rw [Env.partsI, h1]; simp only [h3]; rfl, fun p hp => ?_⟩
        rcases List.mem_cons.1 hp with rfl | hp
        · exact h2
        · exact h4 p hp

noncomputable def ofCs (l : List Value) : Option (List V) := List.rec (motive := fun _ => Option (List V)) (some []) (fun u _ ih => match ofC u with
    | none => none
    | some v => match ih with
      | none => none
      | some vs => some (v :: vs)) l
theorem ofCs_cons {u : Value} {r : List Value} : ofCs (u :: r) = match ofC u with
    | none => none
    | some v => match ofCs r with
      | none => none
      | some vs => some (v :: vs) := rfl

theorem ofCs_spec {S : Si} {n : Dm} : ∀ {l : List Value} {vs : List V}, ofCs l = some vs → concs S vs = l ∧ oks n vs
  | [], vs, h => by cases h; exact ⟨rfl, True.intro⟩
  | u :: r, vs, h => by
    rw [ofCs_cons] at h
    split at h
    · cases h
    · rename_i v hv
      split at h
      · cases h
      · rename_i us hu
        cases h
        obtain ⟨h1, h2⟩ := ofC_spec hv S n
        obtain ⟨h3, h4⟩ := ofCs_spec (S := S) (n := n) hu
        exact ⟨by rw [concs, h1, h3], h2, h4⟩

/-- The cells of a type's zero. -/
noncomputable def zeroV (P : Program) (t : TypeId) : Option (List V) := match zeroT P t with
  | some zv => ofCs zv.cells.toList
  | none => none

theorem zeroV_spec {P : Program} {t : TypeId} {zs : List V} (h : zeroV P t = some zs) (S : Si) (n : Dm) : ∃ zv, zeroT P t = some zv ∧ zv.cells = (concs S zs).toArray ∧ oks n zs := by
  unfold zeroV at h
  split at h
  · rename_i zv hz
    obtain ⟨h1, h2⟩ := ofCs_spec (S := S) (n := n) h
    exact ⟨zv, hz, by rw [h1], h2⟩
  · cases h

theorem Ev.buildArrF {P : Program} {w : World} {e : Env} {ty t : TypeId} {n sz : Nat} {l : List (Nat × Operand)} {ps : List (Nat × Value)} {zv : Value} {cs : Array Value} (hl : e.partsI l = some ps) (ht : arrT P t = some (n, sz)) (hz : zeroT P t = some zv)
    (hf : fillP (fun i => some (i * sz, sz)) zv.cells ps = some cs) : Ev P w e (.build t l.toArray) ty (.agg cs) := .of fun ρ hρ _ _ _ _ => by
  have h1 := Env.partsI_map hρ hl
  have hfill := fill_of_fillP _ _ _ _ hf
  unfold arrT at ht
  unfold zeroT at hz
  cases hi : P.info? t with
  | none => rw [hi] at hz; cases hz
  | some inf =>
    rw [hi] at hz
    simp only [Option.bind_some] at hz
    split at ht
    · rename_i n' el hu
      cases hi2 : P.info? el with
      | none => rw [hi2] at ht; cases ht
      | some inf2 =>
        rw [hi2] at ht
        simp at ht
        obtain ⟨rfl, hs⟩ := ht
        simp only [execOp, List.map_toArray, h1, Instr.build, zeroValue, typeInfo, Sem.run_bind, run_program, Result.andThen, hi, Sem.run_pure, hz, run_underlying hu, sizeOf, hi2, hs]
        rw [hfill]
        rfl
    · cases ht

noncomputable def buildV (P : Program) (t : TypeId) (ps : List (Nat × V)) : Option V := match zeroV P t with
  | none => none
  | some zs => match structT P t with
    | some pl => (match fillV (fun i => nthR pl i) zs ps with | some cs => some (.agg cs) | none => none)
    | none => match arrT P t with
      | some (_, sz) => (match fillV (fun i => some (i * sz, sz)) zs ps with | some cs => some (.agg cs) | none => none)
      | none => none

theorem buildV_spec {P : Program} {w : World} {e : En} {ty t : TypeId} {l : List (Nat × Operand)} {ps : List (Nat × V)} {v : V} {n : Dm} (h : buildV P t ps = some v) (hl : e.partsI l = some ps) (hk : e.ok n) (S : Si) :
    Ev P w (e.conc S) (.build t l.toArray) ty (v.conc S) ∧ v.ok n := by
  obtain ⟨h1, h2⟩ := En.partsI_conc (S := S) hk hl
  unfold buildV at h
  simp only [nthR_eq] at h
  split at h
  · cases h
  · rename_i zs hz
    obtain ⟨zv, hz1, hz2, hz3⟩ := zeroV_spec hz S n
    split at h
    · rename_i pl hpl
      split at h
      · rename_i cs hf
        cases h
        obtain ⟨h3, h4⟩ := fillV_spec (S := S) hf h2 hz3
        exact ⟨Ev.buildSt h1 hpl hz1 (by rw [hz2]; exact h3), h4⟩
      · cases h
    · split at h
      · rename_i m sz ha
        split at h
        · rename_i cs hf
          cases h
          obtain ⟨h3, h4⟩ := fillV_spec (S := S) hf h2 hz3
          exact ⟨Ev.buildArrF h1 ha hz1 (by rw [hz2]; exact h3), h4⟩
        · cases h
      · cases h

/-! ## Places -/

noncomputable def natOf : V → Option Nat
  | .int _ (.ofNat m) => some m
  | _ => none

theorem natOf_spec {v : V} {m : Nat} (h : natOf v = some m) : ∃ k, v = .int k (m : Nat) := by
  unfold natOf at h
  split at h <;> first | (cases h; exact ⟨_, rfl⟩) | cases h

noncomputable def idxA (P : Program) (t : TypeId) (u : V) (m : Nat) : Option V := match u with
  | .slc b o n _ => (match slT P t with
    | some (_, sz) => bif Nat.blt m n then some (.ptr b (o + m * sz)) else none
    | none => none)
  | .ptr b o => (match arrT P t with
    | some (n, sz) => bif Nat.blt m n then some (.ptr b (o + m * sz)) else none
    | none => none)
  | _ => none

theorem Cp.off_pos {S : Si} {b o n : Nat} {c : Cp} (h : n ≠ 0) : c.off S b o n = o := by
  cases c <;> simp [Cp.off, h]

theorem idxA_spec {P : Program} {w : World} {e : En} {ty t : TypeId} {x y : Operand} {u u' v : V} {m : Nat} {n : Dm} (h : idxA P t u m = some v) (hx : e.val x = some u) (hy : e.val y = some u') (hm : natOf u' = some m) (hk : e.ok n) (S : Si) :
    Ev P w (e.conc S) (.indexAddr t x y) ty (v.conc S) ∧ v.ok n := by
  obtain ⟨hx', ho⟩ := En.val_conc (S := S) hx hk
  have hy' := (En.val_conc (S := S) hy hk).1
  obtain ⟨k, rfl⟩ := natOf_spec hm
  unfold idxA at h
  split at h
  · split at h
    · rename_i hs
      obtain ⟨hb, h2⟩ := bif_some h
      cases h2
      have hb' := Nat.le_of_ble_eq_true hb
      refine ⟨Ev.iaSl hx' hy' rfl hs hb' ?_, ho⟩
      rw [Cp.off_pos (by omega), Nat.add_assoc]
    · cases h
  · split at h
    · rename_i hs
      obtain ⟨hb, h2⟩ := bif_some h
      cases h2
      have hb' := Nat.le_of_ble_eq_true hb
      exact ⟨Ev.iaArr hx' hy' rfl hs hb' (by rw [Nat.add_assoc]), ho⟩
    · cases h
  · cases h

/-- A bound of a slice. -/
noncomputable def En.bnd (e : En) (d : Nat) : Option Operand → Option Nat
  | none => some d
  | some o => match e.val o with
    | some u => natOf u
    | none => none

theorem En.bnd_spec {e : En} {d l : Nat} {n : Dm} {o : Option Operand} (h : e.bnd d o = some l) (hk : e.ok n) (S : Si) : match (generalizing := false) o with | none => l = d | some o => ∃ k, (e.conc S).val o = some (.int k (l : Nat)) := by
  cases o with
  | none => cases h; rfl
  | some o =>
    simp only [En.bnd] at h
    split at h
    · rename_i u hu
      obtain ⟨k, rfl⟩ := natOf_spec h
      exact ⟨k, (En.val_conc hu hk).1⟩
    · cases h

noncomputable def slcV (P : Program) (t : TypeId) (u : V) (e : En) (lo hi : Option Operand) : Option V := match u with
  | .slc b o n (.ex c) => (match slT P t with
    | some (_, sz) => (match e.bnd 0 lo, e.bnd n hi with
      | some l, some h => bif Nat.ble l h && Nat.ble h c && Nat.ble n c then some (.slc b (bif Nat.beq c l then o else o + l * sz) (h - l) (.ex (c - l))) else none
      | _, _ => none)
    | none => none)
  | .nilslc => (match slT P t with
    | some _ => (match e.bnd 0 lo, e.bnd 0 hi with
      | some l, some h => bif Nat.beq l 0 && Nat.beq h 0 then some .nilslc else none
      | _, _ => none)
    | none => none)
  | .str s => bif isStr P t then (match e.bnd 0 lo, e.bnd s.length hi with
      | some l, some h => bif Nat.ble l h && Nat.ble h s.length then some (.str ((s.drop l).take (h - l))) else none
      | _, _ => none) else none
  | .ptr b o => (match arrT P t with
    | some (n, sz) => (match e.bnd 0 lo, e.bnd n hi with
      | some l, some h => bif Nat.ble l h && Nat.ble h n && Nat.blt l n then some (.slc b (o + l * sz) (h - l) (.ex (n - l))) else none
      | _, _ => none)
    | none => none)
  | _ => none

theorem str_extract (s : List UInt8) (l h : Nat) : (⟨s.toArray⟩ : ByteArray).extract l h = ⟨((s.drop l).take (h - l)).toArray⟩ := by
  apply ByteArray.ext
  simp [ByteArray.data_extract, List.extract_eq_take_drop]

theorem cut_eq (B q o l c sz : Nat) : cutAddr (some ⟨B, q + o, none⟩) l c sz = some ⟨B, q + (bif Nat.beq c l then o else o + l * sz), none⟩ := by
  unfold cutAddr
  cases hb : Nat.beq c l with
  | true => rw [if_pos (Nat.eq_of_beq_eq_true hb)]; rfl
  | false => rw [if_neg (Nat.ne_of_beq_eq_false hb)]; simp [add_none, Nat.add_assoc]

theorem slcV_spec {P : Program} {w : World} {e : En} {ty t : TypeId} {x : Operand} {lo hi : Option Operand} {u v : V} {n : Dm} (h : slcV P t u e lo hi = some v) (hx : e.val x = some u) (hk : e.ok n) (S : Si) :
    Ev P w (e.conc S) (.slice t x lo hi none) ty (v.conc S) ∧ v.ok n := by
  obtain ⟨hx', ho⟩ := En.val_conc (S := S) hx hk
  unfold slcV at h
  split at h
  · split at h
    · rename_i hs
      split at h
      · rename_i l hh hl hr
        obtain ⟨hb, h2⟩ := bif_some h
        cases h2
        simp only [Bool.and_eq_true] at hb
        have h1 := Nat.le_of_ble_eq_true hb.1.1
        have h2 := Nat.le_of_ble_eq_true hb.1.2
        have h3 := Nat.le_of_ble_eq_true hb.2
        have := Ev.slSl (w := w) (ty := ty) hx' hs (En.bnd_spec hl hk S) (En.bnd_spec hr hk S) h1 h2 h3
        refine ⟨?_, ho⟩
        simp only [Cp.off, Cp.cap, cut_eq] at this
        exact this
      · cases h
    · cases h
  · split at h
    · rename_i p hs
      split at h
      · rename_i l hh hl hr
        obtain ⟨hb, h2⟩ := bif_some h
        cases h2
        simp only [Bool.and_eq_true] at hb
        obtain rfl : l = 0 := by simpa using hb.1
        obtain rfl : hh = 0 := by simpa using hb.2
        have := Ev.slSl (w := w) (ty := ty) (el := p.1) (sz := p.2) hx' hs (En.bnd_spec hl hk S) (En.bnd_spec hr hk S) (Nat.le_refl 0) (Nat.le_refl 0) (Nat.le_refl 0)
        exact ⟨this, True.intro⟩
      · cases h
    · cases h
  · obtain ⟨hst, h⟩ := bif_some h
    split at h
    · rename_i l hh hl hr
      obtain ⟨hb, h2⟩ := bif_some h
      cases h2
      simp only [Bool.and_eq_true] at hb
      have h1 := Nat.le_of_ble_eq_true hb.1
      have h2 := Nat.le_of_ble_eq_true hb.2
      have hlen : ∀ s : List UInt8, (⟨s.toArray⟩ : ByteArray).size = s.length := fun s => by simp [ByteArray.size]
      have := Ev.slStr (w := w) (ty := ty) (lo := lo) (hi := hi) (l := l) (h := hh) hx' (isStr_spec hst) (En.bnd_spec hl hk S) (by rw [hlen]; exact En.bnd_spec hr hk S) h1 (by rw [hlen]; exact h2)
      rw [str_extract] at this
      exact ⟨this, True.intro⟩
    · cases h
  · split at h
    · rename_i hs
      split at h
      · rename_i l hh hl hr
        obtain ⟨hb, h2⟩ := bif_some h
        cases h2
        simp only [Bool.and_eq_true] at hb
        have h1 := Nat.le_of_ble_eq_true hb.1.1
        have h2 := Nat.le_of_ble_eq_true hb.1.2
        have h3 := Nat.le_of_ble_eq_true hb.2
        exact ⟨Ev.slArr hx' hs (En.bnd_spec hl hk S) (En.bnd_spec hr hk S) h1 h2 h3 (by rw [Nat.add_assoc]; rfl), ho⟩
      · cases h
    · cases h
  · cases h

end Go.K
end

section
/-
  A way to run code by reckoning (V): all operations that need no memory.
-/
namespace Go.K
open Go.Proofs.YtdppnaahdilkcaaGreatDoor.V

noncomputable def noIf (P : Program) (t : TypeId) : Bool := match P.underlying t with | some (.interface _) => false | some _ => true | none => false

theorem noIf_spec {P : Program} {t : TypeId} (h : noIf P t = true) : ∃ d, P.underlying t = some d ∧ (match d with | .interface _ => false | _ => true) = true := by
  unfold noIf at h
  split at h
  · cases h
  · rename_i d hd hu
    refine ⟨d, hu, ?_⟩
    cases d <;> first | rfl | exact (hd _ rfl).elim
  · cases h

noncomputable def lenV (P : Program) (ats : Array TypeId) : V → Option V
  | .slc _ _ n _ => (match ats[0]? with | some t => bif isSl P t then some (.int .i64 (n : Nat)) else none | none => none)
  | .nilslc => (match ats[0]? with | some t => bif isSl P t then some (.int .i64 (0 : Nat)) else none | none => none)
  | .str s => (match ats[0]? with | some t => bif isStr P t then some (.int .i64 (lenR s : Nat)) else none | none => none)
  | _ => none

theorem lenV_spec {P : Program} {w : World} {e : En} {ty : TypeId} {x : Operand} {ats : Array TypeId} {u v : V} {n : Dm} (h : lenV P ats u = some v) (hx : e.val x = some u) (hk : e.ok n) (S : Si) :
    Ev P w (e.conc S) (.call ⟨.builtin .len, #[x], ats⟩) ty (v.conc S) ∧ v.ok n := by
  have hx' := (En.val_conc (S := S) hx hk).1
  unfold lenV at h
  simp only [lenR_eq] at h
  split at h
  · split at h
    · rename_i t ht
      obtain ⟨hb, h2⟩ := bif_some h
      obtain ⟨el, he⟩ := isSl_spec hb
      cases h2; exact ⟨Ev.lenSl hx' ht he, True.intro⟩
    · cases h
  · split at h
    · rename_i t ht
      obtain ⟨hb, h2⟩ := bif_some h
      obtain ⟨el, he⟩ := isSl_spec hb
      cases h2; exact ⟨Ev.lenSl hx' ht he, True.intro⟩
    · cases h
  · split at h
    · rename_i t ht
      obtain ⟨hb, h2⟩ := bif_some h
      cases h2; exact ⟨Ev.lenStrL hx' ht (isStr_spec hb), True.intro⟩
    · cases h
  · cases h

noncomputable def capV (P : Program) (ats : Array TypeId) : V → Option V
  | .slc _ _ _ (.ex c) => (match ats[0]? with | some t => bif isSl P t then some (.int .i64 (c : Nat)) else none | none => none)
  | .nilslc => (match ats[0]? with | some t => bif isSl P t then some (.int .i64 (0 : Nat)) else none | none => none)
  | _ => none

theorem capV_spec {P : Program} {w : World} {e : En} {ty : TypeId} {x : Operand} {ats : Array TypeId} {u v : V} {n : Dm} (h : capV P ats u = some v) (hx : e.val x = some u) (hk : e.ok n) (S : Si) :
    Ev P w (e.conc S) (.call ⟨.builtin .cap, #[x], ats⟩) ty (v.conc S) ∧ v.ok n := by
  have hx' := (En.val_conc (S := S) hx hk).1
  unfold capV at h
  split at h
  · split at h
    · rename_i t ht
      obtain ⟨hb, h2⟩ := bif_some h
      obtain ⟨el, he⟩ := isSl_spec hb
      cases h2; exact ⟨Ev.capSl hx' ht he, True.intro⟩
    · cases h
  · split at h
    · rename_i t ht
      obtain ⟨hb, h2⟩ := bif_some h
      obtain ⟨el, he⟩ := isSl_spec hb
      cases h2; exact ⟨Ev.capSl hx' ht he, True.intro⟩
    · cases h
  · cases h

noncomputable def fldV (P : Program) (s i : Nat) : V → Option V
  | .agg cs => (match fieldTO P s i with
    | some (ft, o) => bif plainT P ft then nthR cs o else (match aggT P ft with
      | some m => bif Nat.ble (o + m) (lenR cs) then some (.agg (takeR (dropR cs o) m)) else none
      | none => none)
    | none => none)
  | _ => none

theorem concs_get (S : Si) {n : Dm} {cs : List V} {i : Nat} {v : V} (h : cs[i]? = some v) (hk : oks n cs) : (concs S cs).toArray[i]? = some (v.conc S) ∧ v.ok n := by
  refine ⟨?_, oks_iff.1 hk v (List.mem_of_getElem? h)⟩
  rw [concs_map]; simp [h]

noncomputable def idxV (P : Program) (t : TypeId) (u : V) (m : Nat) : Option V := match u with
  | .agg cs => (match P.underlying t with
    | some (.array n el) => bif plainT P el && Nat.blt m n then (match sizeT P el with | some 1 => nthR cs m | _ => none) else none
    | _ => none)
  | .str s => bif isStr P t then (match nthR s m with
    | some c => some (.int .u8 (c.toNat : Int))
    | none => none) else none
  | _ => none

noncomputable def opV (P : Program) (e : En) : Op → Option V
  | .move x => e.val x
  | .assign x => e.val x
  | .pick c a b => (match e.val c with
    | some (.bool true) => e.val a
    | some (.bool false) => e.val b
    | _ => none)
  | .nilCheck x => (match e.val x with
    | some (.ptr b o) => some (.ptr b o)
    | _ => none)
  | .binOp o t x y _ => (match e.val x, e.val y with
    | some u, some v => bin P o t y u v
    | _, _ => none)
  | .unOp o _ x => (match o, e.val x with
    | .not, some (.bool b) => some (.bool !b)
    | .neg, some (.int k a) => some (.int k (k.wrap (0 - a)))
    | _, _ => none)
  | .convert s d x => (match e.val x with
    | some (.int k a) => (match intT P s, intT P d with
      | some k1, some k2 => Bool.rec (motive := fun _ => Option V) none (some (.int k2 (wrapF k2 a))) (Nat.beq (kidx k1) (kidx k))
      | _, _ => none)
    | _ => none)
  | .makeInterface t x => (match e.val x with
    | some v => bif noIf P t then some (.iface t v) else none
    | none => none)
  | .makeFunc f first cap => (match f, first.toList, e.vals cap.toList with
    | .func g, [], some vs => some (.fn g vs)
    | _, _, _ => none)
  | .fieldAddr s x i => (match e.val x with
    | some (.ptr b o) => (match fieldT P s i with
      | some o' => some (.ptr b (o + o'))
      | none => none)
    | _ => none)
  | .field s x i => (match e.val x with
    | some u => fldV P s i u
    | none => none)
  | .indexAddr t x y => (match e.val x, e.val y with
    | some u, some v => (match natOf v with
      | some m => idxA P t u m
      | none => none)
    | _, _ => none)
  | .index t x y => (match e.val x, e.val y with
    | some u, some v => (match natOf v with
      | some m => idxV P t u m
      | none => none)
    | _, _ => none)
  | .build t ps => (match e.partsI ps.toList with
    | some l => buildV P t l
    | none => none)
  | .slice t x lo hi none => (match e.val x with
    | some u => slcV P t u e lo hi
    | none => none)
  | .sliceToArrayPointer t x => (match e.val x with
    | some (.slc b o (n + 1) _) => (match P.underlying t with
      | some (.array m _) => bif Nat.ble m (n + 1) then some (.ptr b o) else none
      | _ => none)
    | _ => none)
  | .extract x i => (match e.val x with
    | some (.tup vs) => nthR vs i
    | _ => none)
  | .typeAssert x _ t true => (match e.val x with
    | some (.iface t' v) => bif Nat.beq t' t && noIf P t then some (.tup [v, .bool true]) else none
    | _ => none)
  | .call ⟨.builtin b, as_, ats⟩ => (match b, e.vals as_.toList with
    | .len, some [u] => lenV P ats u
    | .cap, some [u] => capV P ats u
    | .min, some [.int k a, .int _ c] => some (.int k (if c < a then c else a))
    | .max, some [.int k a, .int _ c] => some (.int k (if c > a then c else a))
    | _, _ => none)
  | _ => none

theorem toL {α : Type} {a : Array α} {l : List α} (h : a.toList = l) : a = l.toArray := by subst h; simp

theorem vals1 {e : En} {l : List Operand} {u : V} (h : e.vals l = some [u]) : ∃ x, l = [x] ∧ e.val x = some u := by
  cases l with
  | nil => cases h
  | cons x r =>
    rw [En.vals_cons] at h
    split at h
    · cases h
    · rename_i v hv
      split at h
      · cases h
      · rename_i us hu
        cases h
        cases r with
        | nil => exact ⟨x, rfl, hv⟩
        | cons y r =>
          rw [En.vals_cons] at hu
          split at hu
          · cases hu
          · split at hu <;> cases hu

theorem vals2 {e : En} {l : List Operand} {u u' : V} (h : e.vals l = some [u, u']) : ∃ x y, l = [x, y] ∧ e.val x = some u ∧ e.val y = some u' := by
  cases l with
  | nil => cases h
  | cons x r =>
    rw [En.vals_cons] at h
    split at h
    · cases h
    · rename_i v hv
      split at h
      · cases h
      · rename_i us hu
        cases h
        obtain ⟨y, rfl, hy⟩ := vals1 hu
        exact ⟨x, y, rfl, hv, hy⟩

theorem opV_spec {P : Program} {w : World} {e : En} {ty : TypeId} {op : Op} {v : V} {n : Dm} (h : opV P e op = some v) (hk : e.ok n) (S : Si) :
    Ev P w (e.conc S) op ty (v.conc S) ∧ v.ok n := by
  unfold opV at h
  split at h
  · obtain ⟨h1, h2⟩ := En.val_conc (S := S) h hk
    exact ⟨Ev.move h1, h2⟩
  · obtain ⟨h1, h2⟩ := En.val_conc (S := S) h hk
    exact ⟨Ev.assign h1, h2⟩
  · split at h
    · rename_i hc
      obtain ⟨h1, h2⟩ := En.val_conc (S := S) h hk
      exact ⟨Ev.pickT (En.val_conc (S := S) hc hk).1 h1, h2⟩
    · rename_i hc
      obtain ⟨h1, h2⟩ := En.val_conc (S := S) h hk
      exact ⟨Ev.pickF (En.val_conc (S := S) hc hk).1 h1, h2⟩
    · cases h
  · split at h
    · rename_i hc
      cases h
      obtain ⟨h1, h2⟩ := En.val_conc (S := S) hc hk
      exact ⟨Ev.nilCheck h1, h2⟩
    · cases h
  · split at h
    · rename_i hx hy
      exact bin_spec h hx hy hk S
    · cases h
  · split at h
    · rename_i hx
      cases h
      exact ⟨Ev.not (En.val_conc (S := S) hx hk).1, True.intro⟩
    · rename_i hx
      cases h
      exact ⟨Ev.neg (En.val_conc (S := S) hx hk).1 rfl, True.intro⟩
    · cases h
  · split at h
    · rename_i hx
      split at h
      · rename_i h1 h2
        rw [brec] at h
        obtain ⟨he, h3⟩ := bif_some h
        cases h3
        have he := kidx_eq he
        subst he
        rw [wrapF_eq]
        exact ⟨Ev.conv (En.val_conc (S := S) hx hk).1 h1 h2 rfl, True.intro⟩
      · cases h
    · cases h
  · split at h
    · rename_i hx
      obtain ⟨hb, h2⟩ := bif_some h
      cases h2
      obtain ⟨d, h3, h4⟩ := noIf_spec hb
      obtain ⟨h5, h6⟩ := En.val_conc (S := S) hx hk
      exact ⟨Ev.makeInterface h5 h3 (by cases d <;> first | rfl | cases h4), h6⟩
    · cases h
  · split at h
    · rename_i h1 h2
      cases h
      obtain ⟨h3, h4⟩ := En.vals_conc (S := S) hk h2
      have := Ev.makeFunc (P := P) (w := w) (e := e.conc S) (ty := ty) (fn := .func ‹_›) (l1 := []) (vs := []) rfl h3
      rw [← toL h1] at this
      simp only [Array.toArray_toList] at this
      exact ⟨this, h4⟩
    · cases h
  · split at h
    · rename_i hx
      split at h
      · rename_i hf
        cases h
        obtain ⟨h1, h2⟩ := En.val_conc (S := S) hx hk
        exact ⟨Ev.fieldAddr h1 hf (by rw [Nat.add_assoc]), h2⟩
      · cases h
    · cases h
  · split at h
    · rename_i hx
      obtain ⟨h1, h2⟩ := En.val_conc (S := S) hx hk
      unfold fldV at h
      simp only [nthR_eq, lenR_eq, takeR_eq, dropR_eq] at h
      split at h
      · split at h
        · rename_i ft o hf
          cases hb : plainT P ft with
          | true =>
            rw [hb] at h
            obtain ⟨h4, h5⟩ := concs_get S h h2
            exact ⟨Ev.field h1 hf hb h4, h5⟩
          | false =>
            rw [hb] at h
            simp only [cond_false] at h
            split at h
            · rename_i m hm
              obtain ⟨hle, h3⟩ := bif_some h
              cases h3
              refine ⟨Ev.fieldAgg h1 hf hm ?_, oks_sub h2 fun v hv => List.mem_of_mem_drop (List.mem_of_mem_take hv)⟩
              apply Array.ext'
              simp only [Array.toList_extract, concs_map, List.map_take, List.map_drop]
              rw [List.extract_eq_take_drop, Nat.add_sub_cancel_left]
            · cases h
        · cases h
      · cases h
    · cases h
  · split at h
    · rename_i hx hy
      split at h
      · rename_i hm
        exact idxA_spec h hx hy hm hk S
      · cases h
    · cases h
  · split at h
    · rename_i hx hy
      split at h
      · rename_i hm
        obtain ⟨h1, h2⟩ := En.val_conc (S := S) hx hk
        have hy' := (En.val_conc (S := S) hy hk).1
        obtain ⟨k, rfl⟩ := natOf_spec hm
        unfold idxV at h
        simp only [nthR_eq] at h
        split at h
        · split at h
          · rename_i hu
            obtain ⟨hb, h3⟩ := bif_some h
            rw [Bool.and_eq_true] at hb
            split at h3
            · rename_i hs
              obtain ⟨h4, h5⟩ := concs_get S h3 h2
              exact ⟨Ev.ixArr h1 hy' rfl hu hb.1 hs (Nat.le_of_ble_eq_true hb.2) h4, h5⟩
            · cases h3
          · cases h
        · obtain ⟨hb, h3⟩ := bif_some h
          split at h3
          · rename_i c hc
            cases h3
            exact ⟨Ev.ixStr h1 hy' rfl (isStr_spec hb) (by simpa using hc), True.intro⟩
          · cases h3
        · cases h
      · cases h
    · cases h
  · split at h
    · rename_i hl
      have := buildV_spec (w := w) (ty := ty) h hl hk S
      simpa using this
    · cases h
  · split at h
    · rename_i hx
      exact slcV_spec h hx hk S
    · cases h
  · split at h
    · rename_i hx
      split at h
      · rename_i hu
        obtain ⟨hb, h2⟩ := bif_some h
        cases h2
        obtain ⟨h3, h4⟩ := En.val_conc (S := S) hx hk
        have := Ev.slArrPtr (w := w) (ty := ty) h3 hu (Nat.le_of_ble_eq_true hb)
        rw [Cp.off_pos (by omega)] at this
        exact ⟨this, h4⟩
      · cases h
    · cases h
  · split at h
    · rename_i hx
      obtain ⟨h1, h2⟩ := En.val_conc (S := S) hx hk
      rw [nthR_eq] at h
      obtain ⟨h4, h5⟩ := concs_get S h h2
      exact ⟨Ev.extract h1 h4, h5⟩
    · cases h
  · split at h
    · rename_i hx
      obtain ⟨hb, h2⟩ := bif_some h
      cases h2
      rw [Bool.and_eq_true] at hb
      have he := Nat.eq_of_beq_eq_true hb.1
      subst he
      obtain ⟨d, h3, h4⟩ := noIf_spec hb.2
      obtain ⟨h5, h6⟩ := En.val_conc (S := S) hx hk
      exact ⟨Ev.assertOk h5 h3 (by cases d <;> first | rfl | cases h4), h6, True.intro, True.intro⟩
    · cases h
  · split at h
    · rename_i hl
      obtain ⟨x, h1, h2⟩ := vals1 hl
      rw [toL h1]
      exact lenV_spec h h2 hk S
    · rename_i hl
      obtain ⟨x, h1, h2⟩ := vals1 hl
      rw [toL h1]
      exact capV_spec h h2 hk S
    · rename_i hl
      obtain ⟨x, y, h1, h2, h3⟩ := vals2 hl
      rw [toL h1]
      cases h
      exact ⟨Ev.min (En.val_conc (S := S) h2 hk).1 (En.val_conc (S := S) h3 hk).1, True.intro⟩
    · rename_i hl
      obtain ⟨x, y, h1, h2, h3⟩ := vals2 hl
      rw [toL h1]
      cases h
      exact ⟨Ev.maxN (En.val_conc (S := S) h2 hk).1 (En.val_conc (S := S) h3 hk).1 rfl, True.intro⟩
    · cases h
  · cases h

end Go.K
end

section
/-
  A way to run code by reckoning (VI): operations that read memory.
-/
namespace Go.K
open Go.Proofs.YtdppnaahdilkcaaGreatDoor.V

/-! ## Cells -/

/-- The cells of a block, from its base on. -/
noncomputable def Mem.row (M : Mem) (b : Nat) : Option (List V) := match M.get b with
  | some (.cells cs _) => some cs
  | some (.opn _ cs _ _) => some cs
  | _ => none

theorem Rel.row [Obs] [Strm] {S : Si} {H : Dm} {M : Mem} {F : List (Nat × Obj)} {w : World} {b : Nat} {cs : List V} (h : Rel S H M F w) (hr : M.row b = some cs) :
    ∃ L, SL w L ∧ (∀ i v, cs[i]? = some v → Rd L ⟨S.s b, S.b b + i, none⟩ (v.conc S)) ∧ oks (dom H M.nx) cs := by
  unfold Mem.row at hr
  split at hr
  · rename_i cs' ty hg
    cases hr
    obtain ⟨L1, L2, ⟨h1, h2, h3, fr, h4, rfl⟩, h6, _⟩ := h.at hg
    refine ⟨_, h6, fun i v hv => ?_, h2⟩
    rw [h3, Nat.zero_add]
    exact Rd.mk (.head _) (by rw [concs_map]; simp [hv])
  · rename_i z cs' ty sz hg
    cases hr
    obtain ⟨L1, L2, ⟨h1, h2, h3, pre, rest, fr, h4, h5, h6, rfl⟩, h7, _⟩ := h.at hg
    refine ⟨_, h7, fun i v hv => ?_, h2⟩
    refine Rd.mk (.head _) ?_
    have hlt : i < cs.length := by
      rcases Nat.lt_or_ge i cs.length with h | h
      · exact h
      · rw [List.getElem?_eq_none h] at hv; cases hv
    rw [List.getElem?_toArray, List.getElem?_append_right (by omega), ← h4, Nat.add_sub_cancel_left, List.getElem?_append_left (by rw [concs_len]; exact hlt), concs_map]
    simp [hv]
  · cases hr

noncomputable def seg (cs : List V) (o k : Nat) : Option (List V) := bif Nat.ble (o + k) (lenR cs) then some (takeR (dropR cs o) k) else none
theorem seg_eq (cs : List V) (o k : Nat) : seg cs o k = bif Nat.ble (o + k) cs.length then some ((cs.drop o).take k) else none := by simp only [seg, lenR_eq, takeR_eq, dropR_eq]

theorem seg_spec {cs vs : List V} {o k : Nat} (h : seg cs o k = some vs) : vs.length = k ∧ (∀ i v, vs[i]? = some v → cs[o + i]? = some v) ∧ ∀ v ∈ vs, v ∈ cs := by
  rw [seg_eq] at h
  obtain ⟨h1, h2⟩ := bif_some h
  cases h2
  have h3 := Nat.le_of_ble_eq_true h1
  refine ⟨by simp only [List.length_take, List.length_drop]; omega, fun i v hv => ?_, fun v hv => List.mem_of_mem_drop (List.mem_of_mem_take hv)⟩
  rw [List.getElem?_take] at hv
  split at hv
  · rw [List.getElem?_drop] at hv; exact hv
  · cases hv

/-! ## Load -/

noncomputable def loadV (P : Program) (M : Mem) (t : TypeId) (u : V) : Option V := match u with
  | .ptr b o => (match M.row b with
    | none => none
    | some cs => bif plainT P t then nthR cs o else (match aggT P t with
      | none => none
      | some m => match seg cs o m with
        | some vs => some (.agg vs)
        | none => none))
  | _ => none

theorem loadV_spec [Obs] [Strm] {P : Program} {S : Si} {H : Dm} {M : Mem} {F : List (Nat × Obj)} {w : World} {t : TypeId} {u v : V} (h : Rel S H M F w) (hl : loadV P M t u = some v) :
    ∃ a, u.conc S = .pointer (some a) ∧ (loadVar t a).run P w = .ok (v.conc S) w ∧ v.ok (dom H M.nx) := by
  unfold loadV at hl
  simp only [nthR_eq] at hl
  split at hl
  · rename_i b o
    split at hl
    · cases hl
    · rename_i cs hr
      obtain ⟨L, h1, h2, h3⟩ := h.row hr
      refine ⟨_, rfl, ?_⟩
      cases hp : plainT P t with
      | true =>
        rw [hp] at hl
        exact ⟨run_loadVar_plain hp (Rd.cell h1 (h2 _ _ hl)), oks_iff.1 h3 _ (List.mem_of_getElem? hl)⟩
      | false =>
        rw [hp] at hl
        simp only [cond_false] at hl
        split at hl
        · cases hl
        · rename_i m hm
          split at hl
          · rename_i vs hs
            cases hl
            obtain ⟨h4, h5, h6⟩ := seg_spec hs
            refine ⟨run_loadVar_agg (by rw [concs_len, h4, hm]) fun i v hv => ?_, oks_sub h3 h6⟩
            rw [add_none, Nat.add_assoc]
            rw [concs_map] at hv
            simp only [List.getElem?_map, Option.map_eq_some_iff] at hv
            obtain ⟨x, hx, rfl⟩ := hv
            exact Rd.cell h1 (h2 _ _ (h5 _ _ hx))
          · cases hl
  · cases hl

theorem load_spec [Obs] [Strm] {P : Program} {S : Si} {H : Dm} {M : Mem} {F : List (Nat × Obj)} {w : World} {t ty : TypeId} {u v : V} {e : En} {x : Operand} (h : Rel S H M F w) (hl : loadV P M t u = some v) (hx : e.val x = some u) (hk : e.ok (dom H M.nx)) :
    Ev P w (e.conc S) (.load t x) ty (v.conc S) ∧ v.ok (dom H M.nx) := by
  obtain ⟨a, h1, h2, h3⟩ := loadV_spec h hl
  have hx' := (En.val_conc (S := S) hx hk).1
  refine ⟨.of fun ρ hρ _ _ _ _ => ?_, h3⟩
  rw [h1] at hx'
  simp [execOp, hρ _ _ hx', Instr.loadAt, Instr.sureAddr, h2]

/-! ## Bytes as a string -/

noncomputable def byteV (v : V) (o : Option (List UInt8)) : Option (List UInt8) := match v with
  | .int .u8 (.ofNat n) => (match o with
    | some l => bif Nat.blt n 256 then some (UInt8.ofNat n :: l) else none
    | none => none)
  | _ => none
noncomputable def bytesV (l : List V) : Option (List UInt8) := List.rec (motive := fun _ => Option (List UInt8)) (some []) (fun v _ ih => byteV v ih) l
theorem bytesV_cons {v : V} {r : List V} : bytesV (v :: r) = byteV v (bytesV r) := rfl

theorem bytesV_spec {S : Si} : ∀ {l : List V} {bs : List UInt8}, bytesV l = some bs → concs S l = bs.map BV
  | [], bs, h => by cases h; rfl
  | v :: r, bs, h => by
    rw [bytesV_cons] at h
    unfold byteV at h
    split at h
    · rename_i n
      split at h
      · rename_i l hl
        obtain ⟨h1, h2⟩ := bif_some h
        cases h2
        have h3 := Nat.le_of_ble_eq_true h1
        rw [concs, bytesV_spec hl, List.map_cons]
        congr 1
        show Value.int .u8 (n : Int) = .int .u8 ((UInt8.ofNat n).toNat : Int)
        have : (UInt8.ofNat n).toNat = n := by simp; omega
        rw [this]
      · cases h
    · cases h

noncomputable def isBytes (P : Program) (t : TypeId) : Bool := match P.underlying t with
  | some (.slice el) => (match P.underlying el with | some (.int .u8) => true | _ => false)
  | _ => false
theorem isBytes_spec {P : Program} {t : TypeId} (h : isBytes P t = true) : ∃ el, P.underlying t = some (.slice el) ∧ P.underlying el = some (.int .u8) := by
  unfold isBytes at h
  split at h
  · split at h
    · exact ⟨_, ‹_›, ‹_›⟩
    · cases h
  · cases h

noncomputable def strV (P : Program) (M : Mem) (s d : TypeId) (u : V) : Option V := bif isBytes P s && isStr P d then (match u with
  | .nilslc => some (.str [])
  | .slc b o n _ => bif Nat.blt 0 n then (match M.row b with
    | none => none
    | some cs => match seg cs o n with
      | none => none
      | some vs => match bytesV vs with
        | some bs => some (.str bs)
        | none => none) else some (.str [])
  | _ => none) else none

theorem strV_spec [Obs] [Strm] {P : Program} {S : Si} {H : Dm} {M : Mem} {F : List (Nat × Obj)} {w : World} {s d ty : TypeId} {u v : V} {e : En} {x : Operand} (h : Rel S H M F w) (hl : strV P M s d u = some v) (hx : e.val x = some u) (hk : e.ok (dom H M.nx)) :
    Ev P w (e.conc S) (.convert s d x) ty (v.conc S) ∧ v.ok (dom H M.nx) := by
  have hx' := (En.val_conc (S := S) hx hk).1
  unfold strV at hl
  replace hl := bif_some hl; obtain ⟨hb, hl⟩ := hl
  rw [Bool.and_eq_true] at hb
  obtain ⟨el, h1, h2⟩ := isBytes_spec hb.1
  have h3 := isStr_spec hb.2
  split at hl
  · cases hl
    exact ⟨Ev.nilStr hx' h1 h2 h3, True.intro⟩
  · rename_i b o n c
    cases hn : Nat.blt 0 n with
    | true =>
      rw [hn] at hl
      simp only [cond_true] at hl
      split at hl
      · cases hl
      · rename_i cs hr
        obtain ⟨L, g1, g2, g3⟩ := h.row hr
        split at hl
        · cases hl
        · rename_i vs hs
          split at hl
          · rename_i bs hbs
            cases hl
            obtain ⟨h4, h5, h6⟩ := seg_spec hs
            have hn' : n ≠ 0 := by have := Nat.le_of_ble_eq_true hn; omega
            have hc := bytesV_spec (S := S) hbs
            have hlen : bs.length = n := by
              have := congrArg List.length hc
              rw [concs_len, h4, List.length_map] at this
              exact this.symm
            refine ⟨?_, True.intro⟩
            rw [V.conc, Cp.off_pos hn'] at hx'
            refine Ev.bytesStr g1 hx' h1 h2 h3 hlen fun i v hi => ?_
            rw [← hc, concs_map, List.getElem?_map, Option.map_eq_some_iff] at hi
            obtain ⟨y, hy, rfl⟩ := hi
            rw [add_none, Nat.add_assoc]
            exact g2 _ _ (h5 _ _ hy)
          · cases hl
    | false =>
      rw [hn] at hl
      cases hl
      have : n = 0 := by
        rcases Nat.eq_zero_or_pos n with h | h
        · exact h
        · have : Nat.blt 0 n = true := Nat.ble_eq_true_of_le h
          rw [this] at hn; cases hn
      subst this
      obtain ⟨hH, L, g1, g2⟩ := h
      refine ⟨?_, True.intro⟩
      exact Ev.bytesStr (bs := []) g2 hx' h1 h2 h3 rfl fun i v hi => absurd hi (by simp)
  · cases hl

end Go.K
end

section
/-
  A way to run code by reckoning (VII): maps whose keys are rows of numbers.
-/
namespace Go.K
open Go.Proofs.YtdppnaahdilkcaaGreatDoor.V

/-! ## Keys -/

def isInt : V → Bool
  | .int _ _ => true
  | _ => false
noncomputable def allI (l : List V) : Bool := List.rec (motive := fun _ => Bool) true (fun v _ ih => bif isInt v then ih else false) l

noncomputable def litTail (v : V) (ih : List V → Bool) (l : List V) : Bool := match v, l with
  | .int k a, .int k' b :: s => bif decide (k = k') && decide (a = b) then ih s else false
  | _, _ => false
noncomputable def litNil : List V → Bool
  | [] => true
  | _ :: _ => false
noncomputable def litEq (l : List V) : List V → Bool := List.rec (motive := fun _ => List V → Bool) litNil (fun v _ ih => litTail v ih) l

theorem litEq_true : ∀ {a b : List V}, litEq a b = true → a = b
  | [], [], _ => rfl
  | [], _ :: _, h => by cases h
  | v :: r, b, h => by
    replace h : litTail v (litEq r) b = true := h
    unfold litTail at h
    split at h
    · rename_i k a k' b' s
      replace h := bif_true h
      obtain ⟨h1, h2⟩ := h
      simp only [Bool.and_eq_true, decide_eq_true_eq] at h1
      rw [h1.1, h1.2, litEq_true (a := r) (b := s) h2]
    · cases h

theorem litEq_false {S : Si} : ∀ {a b : List V}, allI a = true → allI b = true → litEq a b = false → concs S a ≠ concs S b
  | [], [], _, _, h => by cases h
  | [], u :: s, _, _, _ => by simp [concs]
  | v :: r, [], _, _, _ => by simp [concs]
  | v :: r, u :: s, ha, hb, h => by
    cases v with
    | int k a =>
      cases u with
      | int k' b =>
        intro he
        simp only [concs, V.conc, List.cons.injEq, Value.int.injEq] at he
        obtain ⟨⟨rfl, rfl⟩, he⟩ := he
        have h : (bif decide (k = k) && decide (a = a) then litEq r s else false) = false := h
        simp only [decide_true, Bool.and_self, cond_true] at h
        exact litEq_false (S := S) (a := r) (b := s) ha hb h he
      | _ => cases hb
    | _ => cases ha

theorem allI_conc : ∀ {a : List V} (S S' : Si), allI a = true → concs S a = concs S' a
  | [], _, _, _ => rfl
  | v :: r, S, S', h => by
    cases v with
    | int k a => rw [concs, concs, allI_conc S S' (a := r) h]; rfl
    | _ => cases h

noncomputable def S0 : Si := ⟨fun _ => 0, fun _ => 0, fun _ => 0⟩

noncomputable def keyB (P : Program) (kt : TypeId) (ks : List V) : Bool := allI ks && (keyOf P kt (.agg (concs S0 ks).toArray)).isSome
noncomputable def keyOne (P : Program) (kt : TypeId) (k : V) (ih : Bool) : Bool := match k with
  | .agg ks => bif keyB P kt ks then ih else false
  | _ => false
noncomputable def keysB (P : Program) (kt : TypeId) (l : List (V × V × Nat)) : Bool := List.rec (motive := fun _ => Bool) true (fun x _ ih => keyOne P kt x.1 ih) l
noncomputable def keyT (P : Program) (kt : TypeId) : Bool := P.keyTypeAt 5 kt && P.tiled 5 kt && (match P.underlying kt with | some (.array _ _) | some (.struct _) => true | _ => false)

theorem keyT_spec {P : Program} {kt : TypeId} (h : keyT P kt = true) : WideMaps.KeyLaw P kt := by
  unfold keyT at h
  simp only [Bool.and_eq_true] at h
  exact deep_law (m := 5) (by omega) h.1.1 h.1.2 h.2

theorem keyB_spec {P : Program} {kt : TypeId} {ks : List V} (h : keyB P kt ks = true) (S : Si) : allI ks = true ∧ ∃ l, keyOf P kt ((V.agg ks).conc S) = some l := by
  unfold keyB at h
  rw [Bool.and_eq_true] at h
  refine ⟨h.1, ?_⟩
  rw [V.conc, allI_conc S S0 h.1]
  exact Option.isSome_iff_exists.1 h.2

theorem keysB_spec {P : Program} {kt : TypeId} (S : Si) : ∀ {es : List (V × V × Nat)}, keysB P kt es = true → ∀ e ∈ es.map (entC S), ∃ l, keyOf P kt e.key = some l
  | [], _, e, he => by cases he
  | (k, v, b) :: r, h, e, he => by
    replace h : keyOne P kt k (keysB P kt r) = true := h
    unfold keyOne at h
    split at h
    · rename_i ks
      cases hb : keyB P kt ks with
      | false => rw [hb] at h; cases h
      | true =>
        rw [hb] at h
        rcases List.mem_cons.1 he with rfl | he
        · exact (keyB_spec hb S).2
        · exact keysB_spec S (es := r) h e he
    · cases h

def Found (x : Value) (es : List MapEntry) : Option (Nat × MapEntry) → Prop
  | none => ∀ e ∈ es, e.key ≠ x
  | some (j, e) => es[j]? = some e ∧ e.key = x ∧ ∀ (j' : Nat) (e' : MapEntry), es[j']? = some e' → e'.key = x → j' = j

theorem run_findG {P : Program} {kt : TypeId} (K : WideMaps.KeyLaw P kt) {x : Value} {l : Lit} {es : List MapEntry} {r : Option (Nat × MapEntry)} (hx : keyOf P kt x = some l) (hes : ∀ e ∈ es, ∃ l, keyOf P kt e.key = some l) (hf : Found x es r) (w : World) :
    (Instr.findKey kt x es).run P w = .ok (r.map fun p => (p.1, p.2.val)) w := by
  rcases K.find w hx es hes with ⟨h1, h2⟩ | ⟨j, e, h1, h2, h3⟩
  · cases r with
    | none => exact h1
    | some p => exact absurd hf.2.1 (h2 _ (List.mem_of_getElem? hf.1))
  · cases r with
    | none => exact absurd h3 (hf _ (List.mem_of_getElem? h2))
    | some p =>
      have hj := hf.2.2 j e h2 h3
      have he := hf.1
      rw [← hj, h2] at he
      cases he
      rw [h1, hj]; rfl

noncomputable def findOne (k : List V) (x : V × V × Nat) (ih : Option (Option (Nat × (V × V × Nat)))) : Option (Option (Nat × (V × V × Nat))) := match x with
  | (.agg cs, v, b) => bif allI cs then (match ih with
      | none => none
      | some none => bif litEq cs k then some (some (0, (.agg cs, v, b))) else some none
      | some (some (j, x)) => bif litEq cs k then none else some (some (j + 1, x))) else none
  | _ => none
noncomputable def findV (k : List V) (l : List (V × V × Nat)) : Option (Option (Nat × (V × V × Nat))) := List.rec (motive := fun _ => Option (Option (Nat × (V × V × Nat)))) (some none) (fun x _ ih => findOne k x ih) l

theorem findV_spec {k : List V} (hk : allI k = true) (S : Si) : ∀ {es : List (V × V × Nat)} {r : Option (Nat × (V × V × Nat))}, findV k es = some r →
    Found ((V.agg k).conc S) (es.map (entC S)) (r.map fun p => (p.1, entC S p.2)) ∧ ∀ p, r = some p → es[p.1]? = some p.2 ∧ p.2.1 = .agg k
  | [], r, h => by
    cases h
    exact ⟨fun e he => by simp at he, fun p hp => by cases hp⟩
  | (u, v, b) :: es, r, h => by
    replace h : findOne k (u, v, b) (findV k es) = some r := h
    unfold findOne at h
    split at h
    · rename_i cs _ _ heq
      cases heq
      replace h := bif_some h; obtain ⟨hc, h⟩ := h
      have ne : litEq cs k = false → (V.agg cs).conc S ≠ (V.agg k).conc S := fun hl he => by
        simp only [V.conc, Value.agg.injEq] at he
        exact litEq_false (S := S) hc hk hl (by simpa using congrArg Array.toList he)
      split at h
      · cases h
      · rename_i hr
        obtain ⟨h1, _⟩ := findV_spec hk S hr
        cases hl : litEq cs k with
        | true =>
          rw [hl] at h
          cases h
          have := litEq_true hl
          subst this
          refine ⟨⟨rfl, rfl, fun j' e' hj' he' => ?_⟩, fun p hp => by cases hp; exact ⟨rfl, rfl⟩⟩
          cases j' with
          | zero => rfl
          | succ j' => exact absurd he' (h1 _ (List.mem_of_getElem? (i := j') (by simpa using hj')))
        | false =>
          rw [hl] at h
          cases h
          refine ⟨fun e he => ?_, fun p hp => by cases hp⟩
          rcases List.mem_cons.1 he with rfl | he
          · exact ne hl
          · exact h1 e he
      · rename_i j x hr
        obtain ⟨h1, h2⟩ := findV_spec hk S hr
        cases hl : litEq cs k with
        | true => rw [hl] at h; cases h
        | false =>
          rw [hl] at h
          cases h
          refine ⟨⟨by simpa using h1.1, h1.2.1, fun j' e' hj' he' => ?_⟩, fun p hp => by cases hp; exact h2 _ rfl⟩
          cases j' with
          | zero =>
            simp only [List.map_cons, List.getElem?_cons_zero, Option.some.injEq] at hj'
            subst hj'
            exact absurd he' (ne hl)
          | succ j' => rw [h1.2.2 j' e' (by simpa using hj') he']
    · cases h

/-- A type's zero. -/
noncomputable def zeroW (P : Program) (t : TypeId) : Option V := match zeroT P t with
  | some (.agg cs) => (match ofCs cs.toList with | some l => some (.agg l) | none => none)
  | some u => ofC u
  | none => none

theorem zeroW_spec {P : Program} {t : TypeId} {v : V} (h : zeroW P t = some v) (S : Si) (n : Dm) : zeroT P t = some (v.conc S) ∧ v.ok n := by
  unfold zeroW at h
  split at h
  · rename_i cs hz
    split at h
    · rename_i l hl
      cases h
      obtain ⟨h1, h2⟩ := ofCs_spec (S := S) (n := n) hl
      exact ⟨by rw [hz, V.conc, h1], h2⟩
    · cases h
  · rename_i u _ hz
    obtain ⟨h1, h2⟩ := ofC_spec h S n
    exact ⟨by rw [hz, h1], h2⟩
  · cases h

theorem run_zeroT {P : Program} {t : TypeId} {zv : Value} (hz : zeroT P t = some zv) (w : World) : (zeroValue t).run P w = .ok zv w := by
  unfold zeroT at hz
  cases hi : P.info? t with
  | none => rw [hi] at hz; cases hz
  | some i => rw [hi] at hz; simp only [Option.bind_some] at hz; simp [zeroValue, typeInfo, hi, hz]

/-! ## What lies in a map -/

noncomputable def Mem.ents (M : Mem) : V → Option (List (V × V × Nat))
  | .map b => (match M.get b with
    | some (.map es _) => some es
    | _ => none)
  | .nilmap => some []
  | _ => none

noncomputable def lookV (P : Program) (M : Mem) (t : TypeId) (u k : V) (ok : Bool) : Option V := match P.underlying t, k, M.ents u with
  | some (.map kt el), .agg ks, some es => bif keyT P kt && keyB P kt ks && keysB P kt es then (match findV ks es with
    | some (some (_, _, v, _)) => some (bif ok then .tup [v, .bool true] else v)
    | some none => (match zeroW P el with
      | some z => some (bif ok then .tup [z, .bool false] else z)
      | none => none)
    | none => none) else none
  | _, _, _ => none

theorem look_spec [Obs] [Strm] {P : Program} {S : Si} {H : Dm} {M : Mem} {F : List (Nat × Obj)} {w : World} {t ty : TypeId} {u k v : V} {e : En} {x y : Operand} {ok : Bool} (h : Rel S H M F w) (hl : lookV P M t u k ok = some v) (hx : e.val x = some u) (hy : e.val y = some k)
    (hk : e.ok (dom H M.nx)) : Ev P w (e.conc S) (.lookup t x y ok) ty (v.conc S) ∧ v.ok (dom H M.nx) := by
  have hx' := (En.val_conc (S := S) hx hk).1
  have hy' := (En.val_conc (S := S) hy hk).1
  unfold lookV at hl
  split at hl
  · rename_i kt el ks es hu hes
    replace hl := bif_some hl; obtain ⟨hb, hl⟩ := hl
    simp only [Bool.and_eq_true] at hb
    obtain ⟨⟨b1, b2⟩, b3⟩ := hb
    have K := keyT_spec b1
    obtain ⟨ki, l, kl⟩ := keyB_spec b2 S
    have kes := keysB_spec S b3
    have hread : (∀ p ∈ es, p.2.1.ok (dom H M.nx)) ∧ ((V.conc S u = .map none ∧ es = []) ∨ ∃ r clock, V.conc S u = .map (some r) ∧ w.heap[r]? = some (.map (es.map (entC S)).toArray clock)) := by
      unfold Mem.ents at hes
      split at hes
      · rename_i b
        split at hes
        · rename_i clock hg
          cases hes
          obtain ⟨L1, L2, ⟨h1, h2, rfl⟩, h3, _⟩ := h.at hg
          exact ⟨fun p hp => (h2 p hp).2, .inr ⟨_, _, rfl, h3.1 _ (.head _)⟩⟩
        · cases hes
      · cases hes
        exact ⟨fun p hp => absurd hp (by simp), .inl ⟨rfl, rfl⟩⟩
      · cases hes
    obtain ⟨he2, he3⟩ := hread
    split at hl
    · rename_i j ke v' bo hf
      obtain ⟨h1, h2⟩ := findV_spec ki S hf
      have hr := run_findG K kl kes h1 w
      have hv := he2 _ (List.mem_of_getElem? (h2 _ rfl).1)
      cases hl
      refine ⟨.of fun ρ hρ _ _ _ _ => ?_, ?_⟩
      · rcases he3 with ⟨_, rfl⟩ | ⟨r, clock, e1, e2⟩
        · cases hf
        · rw [e1] at hx'
          simp only [execOp, hρ _ _ hx', hρ _ _ hy', Instr.lookup, Sem.run_bind, run_underlying hu, Result.andThen, MapKept.run_getObj_map e2, K.check w _ kl, hr, Option.map_some, Sem.run_pure]
          cases ok <;> rfl
      · cases ok
        · exact hv
        · exact ⟨hv, True.intro, True.intro⟩
    · rename_i hf
      obtain ⟨h1, h2⟩ := findV_spec ki S hf
      have hr := run_findG K kl kes h1 w
      split at hl
      · rename_i z hz
        obtain ⟨z1, z2⟩ := zeroW_spec hz S (dom H M.nx)
        cases hl
        refine ⟨.of fun ρ hρ _ _ _ _ => ?_, ?_⟩
        · rcases he3 with ⟨e1, rfl⟩ | ⟨r, clock, e1, e2⟩
          · rw [e1] at hx'
            simp only [List.map_nil] at hr
            simp only [execOp, hρ _ _ hx', hρ _ _ hy', Instr.lookup, Sem.run_bind, run_underlying hu, Result.andThen, K.check w _ kl, hr, Option.map_none, Sem.run_pure, run_zeroT z1]
            cases ok <;> rfl
          · rw [e1] at hx'
            simp only [execOp, hρ _ _ hx', hρ _ _ hy', Instr.lookup, Sem.run_bind, run_underlying hu, Result.andThen, MapKept.run_getObj_map e2, K.check w _ kl, hr, Option.map_none, Sem.run_pure, run_zeroT z1]
            cases ok <;> rfl
        · cases ok
          · exact z2
          · exact ⟨z2, True.intro, True.intro⟩
      · cases hl
    · cases hl
  · cases hl

/-- A map's length. -/
noncomputable def lenM (P : Program) (M : Mem) (ats : Array TypeId) (u : V) : Option V := match ats[0]?, M.ents u with
  | some t, some es => (match P.underlying t with
    | some (.map _ _) => some (.int .i64 (lenR es : Nat))
    | _ => none)
  | _, _ => none

end Go.K
end
