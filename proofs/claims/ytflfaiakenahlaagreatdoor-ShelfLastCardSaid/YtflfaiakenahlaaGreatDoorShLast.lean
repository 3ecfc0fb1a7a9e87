/-
  The law ShelfLast, walked.
-/
import Derived.Test.YtflfaiakenahlaaGreatDoorM11
namespace Go.Proofs.YtflfaiakenahlaaGreatDoor.V

abbrev goneC (k : List UInt8) : List Ch := [⟨k, [], true⟩]

theorem oneC_at {k v : List UInt8} {vs : List (List UInt8)} : (oneC k (vs ++ [v]))[vs.length]? = some ⟨k, v, false⟩ := by
  unfold oneC
  rw [List.getElem?_map, List.getElem?_append_right (Nat.le_refl _), Nat.sub_self]
  rfl

end Go.Proofs.YtflfaiakenahlaaGreatDoor.V
namespace Go.Proofs.YtflfaiakenahlaaGreatDoor
open Go.Proofs.YtflfaiakenahlaaGreatDoor.V

set_option maxHeartbeats 4000000 in
theorem lastlaw_spec [Strm] (key : List UInt8) (vs : List (List UInt8)) (v : Value) (w : World) (F : List (Nat × Obj)) (hv : StrsIn F v vs) (hg : ErrIn F) (H : SL w F) :
    Does Tryz.prog 5 #[sV key, v] w fun r w' => r = .bool true ∧ SL w' F := by
  obtain ⟨av, cv, rfl, hcv⟩ := hv.len
  have hok0 : OkL [] 3 := OkL.nil 3
  have hL0 : LaidS (St.new 3).P 0 3 [] := laid_new (by omega)
  have ho0 := opened (st := St.new 3) rfl hL0 hok0 (by omega)
  refine Does.intro (args := [_, _]) (e := [(0, _), (1, _)]) Tryz.func5 rfl Tryz.ntmps5 rfl rfl ?_
  repeat (first | refine .seq ?_ | refine .skip ?_ | refine .block ?_ | refine .inBlock ?_ | refine .yes rfl ?_ | refine .no rfl ?_ | refine .exit rfl ?_)
  repeat (first | refine .seq ?_ | refine .skip ?_ | refine .block ?_ | refine .inBlock ?_ | refine .yes rfl ?_ | refine .no rfl ?_ | refine .exit rfl ?_)
  refine RunsE.region ?_
  refine OpsE.ev (Ev.assign rfl) rfl ?_
  refine OpsE.nil ?_
  repeat (first | refine .seq ?_ | refine .skip ?_ | refine .block ?_ | refine .inBlock ?_ | refine .yes rfl ?_ | refine .no rfl ?_ | refine .exit rfl ?_)
  refine RunsE.region ?_
  refine OpsE.ex (Ex.call rfl Tryz.call9 (new_spec 3 (by omega) (by omega) w F H)) rfl ?_; (try clear H); rintro _ w ⟨p, A, rfl, hA, H⟩
  refine OpsE.ev (Ev.move rfl) rfl ?_
  refine OpsE.ev (Ev.extract rfl rfl) rfl ?_
  refine OpsE.ev (Ev.extract rfl rfl) rfl ?_
  refine OpsE.ev (Ev.assign rfl) rfl ?_
  refine OpsE.ev (Ev.assign rfl) rfl ?_
  refine OpsE.nil ?_
  repeat (first | refine .seq ?_ | refine .skip ?_ | refine .block ?_ | refine .inBlock ?_ | refine .yes rfl ?_ | refine .no rfl ?_ | refine .exit rfl ?_)
  refine RunsE.region ?_
  refine OpsE.ev (Ev.move rfl) rfl ?_
  refine OpsE.ev (Ev.buildSt (pl := [(0, 1), (1, 1)]) (zv := .agg #[.int .i64 0, .int .i64 0]) rfl (by kernel_rfl) (by kernel_rfl) rfl) rfl ?_
  refine OpsE.ex (Ex.call rfl Tryz.call11 (open_spec p 0 3 (St.new 3) A rfl (by omega) (by omega) (by decide) (by decide) w F hA H)) rfl ?_; (try clear H); rintro r w hr; rw [ho0] at hr; obtain ⟨h, _⟩ | ⟨l, s, m, o, hl, rfl, ho, H⟩ := hr; cases h; cases hl
  refine OpsE.ev (Ev.move rfl) rfl ?_
  refine OpsE.ev (Ev.extract rfl rfl) rfl ?_
  refine OpsE.ev (Ev.extract rfl rfl) rfl ?_
  refine OpsE.ev (Ev.assign rfl) rfl ?_
  refine OpsE.ev (Ev.assign rfl) rfl ?_
  refine OpsE.nil ?_
  by_cases hk : 50 < key.length
  ·
    repeat (first | refine .seq ?_ | refine .skip ?_ | refine .block ?_ | refine .inBlock ?_ | refine .yes rfl ?_ | refine .no rfl ?_ | refine .exit rfl ?_)
    refine RunsE.region ?_
    refine OpsE.ev (Ev.move rfl) rfl ?_
    refine OpsE.ev (Ev.errNe (n := 0) rfl rfl) rfl ?_
    refine OpsE.ev (Ev.move rfl) rfl ?_
    first | (refine OpsE.yes rfl rfl ?_; refine OpsE.ev (Ev.move rfl) rfl ?_) | refine OpsE.no rfl rfl rfl ?_ | refine OpsE.off rfl rfl rfl ?_
    first | (refine OpsE.yes rfl rfl ?_; refine OpsE.ev (Ev.errNe (n := 0) rfl rfl) rfl ?_) | refine OpsE.no rfl rfl rfl ?_ | refine OpsE.off rfl rfl rfl ?_
    refine OpsE.ev ((by first | exact Ev.pickT rfl rfl | exact Ev.pickF rfl rfl)) rfl ?_
    refine OpsE.ev (Ev.move rfl) rfl ?_
    first | (refine OpsE.yes rfl rfl ?_; refine OpsE.ev (Ev.move rfl) rfl ?_) | refine OpsE.no rfl rfl rfl ?_ | refine OpsE.off rfl rfl rfl ?_
    first | (refine OpsE.yes rfl rfl ?_; refine OpsE.ev (Ev.ptrNilEq (el := 84) rfl rfl (by kernel_rfl)) rfl ?_) | refine OpsE.no rfl rfl rfl ?_ | refine OpsE.off rfl rfl rfl ?_
    refine OpsE.ev ((by first | exact Ev.pickT rfl rfl | exact Ev.pickF rfl rfl)) rfl ?_
    refine OpsE.ev (Ev.move rfl) rfl ?_
    first | (refine OpsE.yes rfl rfl ?_; refine OpsE.ev (Ev.move rfl) rfl ?_) | refine OpsE.no rfl rfl rfl ?_ | refine OpsE.off rfl rfl rfl ?_
    first | (refine OpsE.yes rfl rfl ?_; refine OpsE.ev (Ev.lenStrL rfl rfl Tryz.underlying9) rfl ?_) | refine OpsE.no rfl rfl rfl ?_ | refine OpsE.off rfl rfl rfl ?_
    first | (refine OpsE.yes rfl rfl ?_; refine OpsE.ev (Ev.gtr (r := true) rfl rfl (decide_eq_true (by omega))) rfl ?_) | refine OpsE.no rfl rfl rfl ?_ | refine OpsE.off rfl rfl rfl ?_
    refine OpsE.ev ((by first | exact Ev.pickT rfl rfl | exact Ev.pickF rfl rfl)) rfl ?_
    refine OpsE.nil ?_
    repeat refine RunsE.seq ?_
    refine RunsE.yes rfl ?_
    repeat (first | refine .seq ?_ | refine .skip ?_ | refine .block ?_ | refine .inBlock ?_ | refine .yes rfl ?_ | refine .no rfl ?_ | refine .exit rfl ?_)
    refine RunsE.region ?_
    refine OpsE.ev (Ev.move rfl) rfl ?_
    refine OpsE.ev (Ev.ptrNilNe (el := 84) rfl rfl (by kernel_rfl)) rfl ?_
    refine OpsE.ev (Ev.move rfl) rfl ?_
    first | (refine OpsE.yes rfl rfl ?_; refine OpsE.ex (Ex.call rfl Tryz.call8 (shsure_spec w _ (Rd.tail (Rd.tail (Rd.right hg))) H)) rfl ?_; (try clear H); rintro _ w ⟨rfl, H⟩) | refine OpsE.no rfl rfl rfl ?_ | refine OpsE.off rfl rfl rfl ?_
    refine OpsE.ev ((by first | exact Ev.pickT rfl rfl | exact Ev.pickF rfl rfl)) rfl ?_
    refine OpsE.ev (Ev.assign rfl) rfl ?_
    refine OpsE.nil ?_
    repeat (first | refine .seq ?_ | refine .skip ?_ | refine .block ?_ | refine .inBlock ?_ | refine .yes rfl ?_ | refine .no rfl ?_ | refine .exit rfl ?_)
    exact RunsE.ret1 Tryz.func5 rfl rfl ⟨rfl, H.drop.drop.dropL⟩
  repeat (first | refine .seq ?_ | refine .skip ?_ | refine .block ?_ | refine .inBlock ?_ | refine .yes rfl ?_ | refine .no rfl ?_ | refine .exit rfl ?_)
  refine RunsE.region ?_
  refine OpsE.ev (Ev.move rfl) rfl ?_
  refine OpsE.ev (Ev.errNe (n := 0) rfl rfl) rfl ?_
  refine OpsE.ev (Ev.move rfl) rfl ?_
  first | (refine OpsE.yes rfl rfl ?_; refine OpsE.ev (Ev.move rfl) rfl ?_) | refine OpsE.no rfl rfl rfl ?_ | refine OpsE.off rfl rfl rfl ?_
  first | (refine OpsE.yes rfl rfl ?_; refine OpsE.ev (Ev.errNe (n := 0) rfl rfl) rfl ?_) | refine OpsE.no rfl rfl rfl ?_ | refine OpsE.off rfl rfl rfl ?_
  refine OpsE.ev ((by first | exact Ev.pickT rfl rfl | exact Ev.pickF rfl rfl)) rfl ?_
  refine OpsE.ev (Ev.move rfl) rfl ?_
  first | (refine OpsE.yes rfl rfl ?_; refine OpsE.ev (Ev.move rfl) rfl ?_) | refine OpsE.no rfl rfl rfl ?_ | refine OpsE.off rfl rfl rfl ?_
  first | (refine OpsE.yes rfl rfl ?_; refine OpsE.ev (Ev.ptrNilEq (el := 84) rfl rfl (by kernel_rfl)) rfl ?_) | refine OpsE.no rfl rfl rfl ?_ | refine OpsE.off rfl rfl rfl ?_
  refine OpsE.ev ((by first | exact Ev.pickT rfl rfl | exact Ev.pickF rfl rfl)) rfl ?_
  refine OpsE.ev (Ev.move rfl) rfl ?_
  first | (refine OpsE.yes rfl rfl ?_; refine OpsE.ev (Ev.move rfl) rfl ?_) | refine OpsE.no rfl rfl rfl ?_ | refine OpsE.off rfl rfl rfl ?_
  first | (refine OpsE.yes rfl rfl ?_; refine OpsE.ev (Ev.lenStrL rfl rfl Tryz.underlying9) rfl ?_) | refine OpsE.no rfl rfl rfl ?_ | refine OpsE.off rfl rfl rfl ?_
  first | (refine OpsE.yes rfl rfl ?_; refine OpsE.ev (Ev.gtr (r := false) rfl rfl (decide_eq_false (by omega))) rfl ?_) | refine OpsE.no rfl rfl rfl ?_ | refine OpsE.off rfl rfl rfl ?_
  refine OpsE.ev ((by first | exact Ev.pickT rfl rfl | exact Ev.pickF rfl rfl)) rfl ?_
  refine OpsE.nil ?_
  repeat refine RunsE.seq ?_
  refine RunsE.no rfl ?_
  repeat (first | refine .seq ?_ | refine .skip ?_ | refine .block ?_ | refine .inBlock ?_ | refine .yes rfl ?_ | refine .no rfl ?_ | refine .exit rfl ?_)
  refine RunsE.region ?_
  refine OpsE.ev (Ev.assign rfl) rfl ?_
  refine OpsE.nil ?_
  repeat (first | refine .seq ?_ | refine .skip ?_ | refine .block ?_ | refine .inBlock ?_ | refine .yes rfl ?_ | refine .no rfl ?_ | refine .exit rfl ?_)
  refine RunsE.region ?_
  refine OpsE.ev (Ev.assign rfl) rfl ?_
  refine OpsE.nil ?_
  repeat refine RunsE.seq ?_
  refine RunsE.join (fun v : Value => [(0, sV key), (7, .pointer (some ⟨s, 0, none⟩)), (9, v)])
    (fun v w => ∃ B, Slc gC 3 53 v (oneC key (vs.take 10)) B ∧ (∀ u ∈ vs.take 10, u.length ≤ 50) ∧ SL w ((s, shO p 0 3 m 0) :: (m, o) :: (A ++ (B ++ F)))) (fun next => ?_) ?_
  · refine RunsE.block ?_
    refine RunsE.loop (fun z : Nat × Value => [(0, sV key), (1, .slice av vs.length cv), (7, .pointer (some ⟨s, 0, none⟩)), (9, z.2), (10, .int .i64 (z.1 : Int))])
      (fun z w => z.1 ≤ vs.length ∧ z.1 ≤ 10 ∧ (∀ u ∈ vs.take z.1, u.length ≤ 50) ∧ ∃ B, Slc gC 3 53 z.2 (oneC key (vs.take z.1)) B ∧ SL w ((s, shO p 0 3 m 0) :: (m, o) :: (A ++ (B ++ F)))) (fun z => 10 - z.1) (0, .slice none 0 0) ⟨rfl, rfl, rfl, rfl, rfl, trivial⟩ ⟨by omega, by omega, fun _ h => (by cases h), [], .nil, H⟩ ?_
    clear H
    rintro ⟨i, v⟩ w ⟨hi, hi2, hsz, B, hs, H⟩ nextL
    simp only at hi hi2 hs hsz
    by_cases h1 : i = vs.length
    ·
      repeat (first | refine .seq ?_ | refine .skip ?_ | refine .block ?_ | refine .inBlock ?_ | refine .yes rfl ?_ | refine .no rfl ?_ | refine .exit rfl ?_)
      refine RunsE.region ?_
      refine OpsE.ev (Ev.move rfl) rfl ?_
      refine OpsE.ev (Ev.move rfl) rfl ?_
      refine OpsE.ev (Ev.lenSl (d := 9) rfl rfl (by kernel_rfl)) rfl ?_
      refine OpsE.ev (Ev.lss (r := false) rfl rfl (decide_eq_false (by simp only; omega))) rfl ?_
      refine OpsE.ev (Ev.move rfl) rfl ?_
      first | (refine OpsE.yes rfl rfl ?_; refine OpsE.ev (Ev.move rfl) rfl ?_) | refine OpsE.no rfl rfl rfl ?_ | refine OpsE.off rfl rfl rfl ?_
      first | (refine OpsE.yes rfl rfl ?_; refine OpsE.ev (Ev.lss rfl rfl) rfl ?_) | refine OpsE.no rfl rfl rfl ?_ | refine OpsE.off rfl rfl rfl ?_
      refine OpsE.ev ((by first | exact Ev.pickT rfl rfl | exact Ev.pickF rfl rfl)) rfl ?_
      refine OpsE.nil ?_
      repeat refine RunsE.seq ?_
      refine RunsE.no rfl ?_
      refine RunsE.exit rfl ?_
      have e : vs.take 10 = vs.take i := by rw [h1, List.take_length, List.take_of_length_le (by omega)]
      exact next _ _ _ ⟨B, by rw [e]; exact hs, by rw [e]; exact hsz, H⟩ ⟨rfl, rfl, rfl, trivial⟩
    have hil : i < vs.length := by omega
    by_cases h2 : i = 10
    ·
      repeat (first | refine .seq ?_ | refine .skip ?_ | refine .block ?_ | refine .inBlock ?_ | refine .yes rfl ?_ | refine .no rfl ?_ | refine .exit rfl ?_)
      refine RunsE.region ?_
      refine OpsE.ev (Ev.move rfl) rfl ?_
      refine OpsE.ev (Ev.move rfl) rfl ?_
      refine OpsE.ev (Ev.lenSl (d := 9) rfl rfl (by kernel_rfl)) rfl ?_
      refine OpsE.ev (Ev.lss (r := true) rfl rfl (decide_eq_true (by simp only; omega))) rfl ?_
      refine OpsE.ev (Ev.move rfl) rfl ?_
      first | (refine OpsE.yes rfl rfl ?_; refine OpsE.ev (Ev.move rfl) rfl ?_) | refine OpsE.no rfl rfl rfl ?_ | refine OpsE.off rfl rfl rfl ?_
      first | (refine OpsE.yes rfl rfl ?_; refine OpsE.ev (Ev.lss (r := false) rfl rfl (decide_eq_false (by simp only; omega))) rfl ?_) | refine OpsE.no rfl rfl rfl ?_ | refine OpsE.off rfl rfl rfl ?_
      refine OpsE.ev ((by first | exact Ev.pickT rfl rfl | exact Ev.pickF rfl rfl)) rfl ?_
      refine OpsE.nil ?_
      repeat refine RunsE.seq ?_
      refine RunsE.no rfl ?_
      refine RunsE.exit rfl ?_
      exact next _ _ _ ⟨B, by rw [← h2]; exact hs, by rw [← h2]; exact hsz, H⟩ ⟨rfl, rfl, rfl, trivial⟩
    clear next
    obtain ⟨y, hy⟩ : ∃ y, vs[i]? = some y := ⟨vs[i], List.getElem?_eq_getElem hil⟩
    obtain ⟨bl, ol, u, rfl, hat, rfl⟩ := hv.at hy
    have ht : vs.take (i + 1) = vs.take i ++ [y] := by rw [List.take_add_one, hy]; rfl
    have hat' : Rd ((s, shO p 0 3 m 0) :: (m, o) :: (A ++ (B ++ F))) ⟨bl, ol + i, none⟩ (sV y) := Rd.tail (Rd.tail (Rd.right (Rd.right hat)))
    by_cases h3 : 50 < y.length
    ·
      repeat (first | refine .seq ?_ | refine .skip ?_ | refine .block ?_ | refine .inBlock ?_ | refine .yes rfl ?_ | refine .no rfl ?_ | refine .exit rfl ?_)
      refine RunsE.region ?_
      refine OpsE.ev (Ev.move rfl) rfl ?_
      refine OpsE.ev (Ev.move rfl) rfl ?_
      refine OpsE.ev (Ev.lenSl (d := 9) rfl rfl (by kernel_rfl)) rfl ?_
      refine OpsE.ev (Ev.lss (r := true) rfl rfl (decide_eq_true (by simp only; omega))) rfl ?_
      refine OpsE.ev (Ev.move rfl) rfl ?_
      first | (refine OpsE.yes rfl rfl ?_; refine OpsE.ev (Ev.move rfl) rfl ?_) | refine OpsE.no rfl rfl rfl ?_ | refine OpsE.off rfl rfl rfl ?_
      first | (refine OpsE.yes rfl rfl ?_; refine OpsE.ev (Ev.lss (r := true) rfl rfl (decide_eq_true (by simp only; omega))) rfl ?_) | refine OpsE.no rfl rfl rfl ?_ | refine OpsE.off rfl rfl rfl ?_
      refine OpsE.ev ((by first | exact Ev.pickT rfl rfl | exact Ev.pickF rfl rfl)) rfl ?_
      refine OpsE.nil ?_
      repeat refine RunsE.seq ?_
      refine RunsE.yes rfl ?_
      repeat (first | refine .seq ?_ | refine .skip ?_ | refine .block ?_ | refine .inBlock ?_ | refine .yes rfl ?_ | refine .no rfl ?_ | refine .exit rfl ?_)
      repeat (first | refine .seq ?_ | refine .skip ?_ | refine .block ?_ | refine .inBlock ?_ | refine .yes rfl ?_ | refine .no rfl ?_ | refine .exit rfl ?_)
      refine RunsE.region ?_
      refine OpsE.ev (Ev.move rfl) rfl ?_
      refine OpsE.ev (Ev.move rfl) rfl ?_
      refine OpsE.ev (Ev.iaSl (n := 9) (sz := 1) (m := i) (o := ol + i) rfl rfl rfl (by kernel_rfl) hil (by rw [Nat.mul_one])) rfl ?_
      refine OpsE.ev (Ev.load (v := sV y) H rfl (by kernel_rfl) hat') rfl ?_
      refine OpsE.ev (Ev.lenStrL rfl rfl Tryz.underlying9) rfl ?_
      refine OpsE.ev (Ev.gtr (r := true) rfl rfl (decide_eq_true (by omega))) rfl ?_
      refine OpsE.nil ?_
      repeat refine RunsE.seq ?_
      refine RunsE.yes rfl ?_
      repeat (first | refine .seq ?_ | refine .skip ?_ | refine .block ?_ | refine .inBlock ?_ | refine .yes rfl ?_ | refine .no rfl ?_ | refine .exit rfl ?_)
      refine RunsE.region ?_
      refine OpsE.ex (Ex.call rfl Tryz.call8 (shsure_spec w _ (Rd.tail (Rd.tail (Rd.right (Rd.right hg)))) H)) rfl ?_; (try clear H); rintro _ w ⟨rfl, H⟩
      refine OpsE.ev (Ev.assign rfl) rfl ?_
      refine OpsE.nil ?_
      repeat (first | refine .seq ?_ | refine .skip ?_ | refine .block ?_ | refine .inBlock ?_ | refine .yes rfl ?_ | refine .no rfl ?_ | refine .exit rfl ?_)
      exact RunsE.ret1 Tryz.func5 rfl rfl ⟨rfl, H.drop.drop.dropL.dropL⟩
    repeat (first | refine .seq ?_ | refine .skip ?_ | refine .block ?_ | refine .inBlock ?_ | refine .yes rfl ?_ | refine .no rfl ?_ | refine .exit rfl ?_)
    refine RunsE.region ?_
    refine OpsE.ev (Ev.move rfl) rfl ?_
    refine OpsE.ev (Ev.move rfl) rfl ?_
    refine OpsE.ev (Ev.lenSl (d := 9) rfl rfl (by kernel_rfl)) rfl ?_
    refine OpsE.ev (Ev.lss (r := true) rfl rfl (decide_eq_true (by simp only; omega))) rfl ?_
    refine OpsE.ev (Ev.move rfl) rfl ?_
    first | (refine OpsE.yes rfl rfl ?_; refine OpsE.ev (Ev.move rfl) rfl ?_) | refine OpsE.no rfl rfl rfl ?_ | refine OpsE.off rfl rfl rfl ?_
    first | (refine OpsE.yes rfl rfl ?_; refine OpsE.ev (Ev.lss (r := true) rfl rfl (decide_eq_true (by simp only; omega))) rfl ?_) | refine OpsE.no rfl rfl rfl ?_ | refine OpsE.off rfl rfl rfl ?_
    refine OpsE.ev ((by first | exact Ev.pickT rfl rfl | exact Ev.pickF rfl rfl)) rfl ?_
    refine OpsE.nil ?_
    repeat refine RunsE.seq ?_
    refine RunsE.yes rfl ?_
    repeat (first | refine .seq ?_ | refine .skip ?_ | refine .block ?_ | refine .inBlock ?_ | refine .yes rfl ?_ | refine .no rfl ?_ | refine .exit rfl ?_)
    repeat (first | refine .seq ?_ | refine .skip ?_ | refine .block ?_ | refine .inBlock ?_ | refine .yes rfl ?_ | refine .no rfl ?_ | refine .exit rfl ?_)
    refine RunsE.region ?_
    refine OpsE.ev (Ev.move rfl) rfl ?_
    refine OpsE.ev (Ev.move rfl) rfl ?_
    refine OpsE.ev (Ev.iaSl (n := 9) (sz := 1) (m := i) (o := ol + i) rfl rfl rfl (by kernel_rfl) hil (by rw [Nat.mul_one])) rfl ?_
    refine OpsE.ev (Ev.load (v := sV y) H rfl (by kernel_rfl) hat') rfl ?_
    refine OpsE.ev (Ev.lenStrL rfl rfl Tryz.underlying9) rfl ?_
    refine OpsE.ev (Ev.gtr (r := false) rfl rfl (decide_eq_false (by omega))) rfl ?_
    refine OpsE.nil ?_
    repeat refine RunsE.seq ?_
    refine RunsE.no rfl ?_
    have H' : SL w (B ++ ((s, shO p 0 3 m 0) :: (m, o) :: (A ++ F))) := H.perm (perm_of fun a => by simp only [List.count_append, List.count_cons]; omega)
    have hat2 : Rd (B ++ ((s, shO p 0 3 m 0) :: (m, o) :: (A ++ F))) ⟨bl, ol + i, none⟩ (sV y) := Rd.right (Rd.tail (Rd.tail (Rd.right hat)))
    clear H hat'
    repeat (first | refine .seq ?_ | refine .skip ?_ | refine .block ?_ | refine .inBlock ?_ | refine .yes rfl ?_ | refine .no rfl ?_ | refine .exit rfl ?_)
    refine RunsE.region ?_
    refine OpsE.ev (Ev.move rfl) rfl ?_
    refine OpsE.ev (Ev.move rfl) rfl ?_
    refine OpsE.ev (Ev.move rfl) rfl ?_
    refine OpsE.ev (Ev.move rfl) rfl ?_
    refine OpsE.ev (Ev.iaSl (n := 9) (sz := 1) (m := i) (o := ol + i) rfl rfl rfl (by kernel_rfl) hil (by rw [Nat.mul_one])) rfl ?_
    refine OpsE.ev (Ev.load (v := sV y) H' rfl (by kernel_rfl) hat2) rfl ?_
    refine OpsE.ev (Ev.buildSt (pl := [(0, 1), (1, 1), (2, 1)]) (zv := .agg #[.string .empty, .string .empty, .bool false]) rfl (by kernel_rfl) (by kernel_rfl) rfl) rfl ?_
    refine OpsE.ex (Ex.buildSlP (len := 1) (sz := 3) (T := 53) (zv := .agg #[.string .empty, .string .empty, .bool false]) (cs := gC ⟨key, y, false⟩) H' rfl (by kernel_rfl) (by kernel_rfl) rfl (by decide) (by decide)) rfl ?_; (try clear H); rintro _ w ⟨b25, rfl, H⟩
    refine OpsE.ex (Ex.append (T := 53) (g := gC) (sz := 3) (by_ := 40) (zv := .agg #[.string .empty, .string .empty, .bool false]) (xs := oneC key (vs.take i)) (ys := [⟨key, y, false⟩]) H.drop rfl rfl hs (Src.row0 H m0 rfl) (fun _ => rfl) gC_one (by kernel_rfl) (by kernel_rfl) (by kernel_rfl) (by kernel_rfl) rfl (by simp only [List.length_singleton, List.length_map, List.length_take]; omega) (by simp only [List.length_singleton, List.length_map, List.length_take]; omega)) rfl ?_; (try clear H); rintro v' w ⟨B, hs, H⟩
    refine OpsE.ev (Ev.assign rfl) rfl ?_
    refine OpsE.nil ?_
    refine RunsE.inBlock ?_
    repeat (first | refine .seq ?_ | refine .skip ?_ | refine .block ?_ | refine .inBlock ?_ | refine .yes rfl ?_ | refine .no rfl ?_ | refine .exit rfl ?_)
    refine RunsE.region ?_
    refine OpsE.ev (Ev.move rfl) rfl ?_
    refine OpsE.ev (Ev.add rfl rfl) rfl ?_
    refine OpsE.ev (Ev.assign rfl) rfl ?_
    refine OpsE.nil ?_
    refine nextL (i + 1, v') _ _ (by simp only; omega) ⟨by simp only; omega, by simp only; omega, fun u hu => ?_, B, by simp only [ht, oneC, List.map_append]; exact hs, H.perm (perm_of fun a => by simp only [List.count_append, List.count_cons]; omega)⟩ ⟨rfl, rfl, rfl, rfl, rfl, trivial⟩
    rw [ht, List.mem_append, List.mem_singleton] at hu
    rcases hu with hu | rfl
    · exact hsz _ hu
    · omega
  clear H
  rintro v w ⟨B, hs, hsz, H⟩
  obtain ⟨us, hus⟩ : ∃ us, us = vs.take 10 := ⟨_, rfl⟩
  have hul : us.length ≤ 10 := by rw [hus, List.length_take]; omega
  rw [← hus] at hs hsz
  obtain ⟨ab, cb, rfl, hcb⟩ := hs.leCap
  have hva : ElsA 3 (ChAt (B ++ F)) (.slice ab (oneC key us).length cb) (oneC key us) := hs.chAt (L := F)
  have hgB : ErrIn (B ++ F) := Rd.right hg
  have hfin : ∀ {w : World}, SL w (B ++ F) → SL w F := fun H => H.dropL
  have hbig : ∀ c ∈ oneC key us, c.key.length ≤ 100000 ∧ c.val.length ≤ 100000 := by
    intro c hc
    obtain ⟨u, hu, rfl⟩ := List.mem_map.1 hc
    have := hsz u hu
    exact ⟨by simp only; omega, by simp only; omega⟩
  have hlen : (oneC key us).length = us.length := List.length_map _
  clear hus
  obtain ⟨R1, hR1⟩ : ∃ R1, R1 = setP (St.new 3) 0 3 [] 0 (oneC key us) := ⟨_, rfl⟩
  have e1 := set_up (st := St.new 3) (oneC key us) rfl rfl rfl hL0 hok0 (by omega) (by omega)
  rw [← hR1] at e1
  rcases List.eq_nil_or_concat us with rfl | ⟨us', x, rfl⟩
  · rw [show setM [] 3 (oneC key []) = ([], 0, false, 0) from rfl] at e1
    obtain ⟨a1, a2, a3, a4, a5, a6, a7, a8, -, -⟩ := e1
    simp only at a1 a2 a7
    repeat (first | refine .seq ?_ | refine .skip ?_ | refine .block ?_ | refine .inBlock ?_ | refine .yes rfl ?_ | refine .no rfl ?_ | refine .exit rfl ?_)
    refine RunsE.region ?_
    refine OpsE.ev (Ev.move rfl) rfl ?_
    refine OpsE.ev (Ev.move rfl) rfl ?_
    refine OpsE.ex (Ex.call rfl Tryz.call16 (set_spec s p 0 3 m 0 o (St.new 3) [] (oneC key []) _ A hok0 (by omega) (by omega) (by omega) (by decide) (by rw [hlen]; decide) hbig w (B ++ F) hva ho hA H)) rfl ?_; (try clear H); rintro _ w ⟨m1, o1, A1, rfl, ho1, hA1, H⟩; rw [← hR1, a2] at ho1; rw [← hR1] at hA1; rw [← hR1, a3] at H; rw [← hR1, a1]
    refine OpsE.ev (Ev.errNe (n := 0) rfl rfl) rfl ?_
    refine OpsE.nil ?_
    repeat refine RunsE.seq ?_
    refine RunsE.no rfl ?_
    repeat (first | refine .seq ?_ | refine .skip ?_ | refine .block ?_ | refine .inBlock ?_ | refine .yes rfl ?_ | refine .no rfl ?_ | refine .exit rfl ?_)
    refine RunsE.region ?_
    refine OpsE.ev (Ev.move rfl) rfl ?_
    refine OpsE.ev (Ev.move rfl) rfl ?_
    refine OpsE.ex (Ex.call rfl Tryz.call19 (get_spec s p 0 3 m1 0 o1 [] key w _ (.head _) (.tail _ (.head _)) ho1 H)) rfl ?_; (try clear H); rintro _ w ⟨rfl, H⟩
    refine OpsE.ev (Ev.move rfl) rfl ?_
    refine OpsE.ev (Ev.extract (v := sV []) rfl rfl) rfl ?_
    refine OpsE.ev (Ev.extract (v := .bool false) rfl rfl) rfl ?_
    refine OpsE.ev (Ev.assign rfl) rfl ?_
    refine OpsE.ev (Ev.assign rfl) rfl ?_
    refine OpsE.nil ?_
    repeat (first | refine .seq ?_ | refine .skip ?_ | refine .block ?_ | refine .inBlock ?_ | refine .yes rfl ?_ | refine .no rfl ?_ | refine .exit rfl ?_)
    refine RunsE.region ?_
    refine OpsE.ev (Ev.move rfl) rfl ?_
    refine OpsE.ev (Ev.lenSl (d := 53) rfl rfl (by kernel_rfl)) rfl ?_
    refine OpsE.ev (Ev.eql (r := true) rfl rfl rfl) rfl ?_
    refine OpsE.nil ?_
    repeat refine RunsE.seq ?_
    refine RunsE.yes rfl ?_
    repeat (first | refine .seq ?_ | refine .skip ?_ | refine .block ?_ | refine .inBlock ?_ | refine .yes rfl ?_ | refine .no rfl ?_ | refine .exit rfl ?_)
    refine RunsE.region ?_
    refine OpsE.ev (Ev.move rfl) rfl ?_
    refine OpsE.ev (Ev.not rfl) rfl ?_
    refine OpsE.ev (Ev.move rfl) rfl ?_
    first | (refine OpsE.yes rfl rfl ?_; refine OpsE.ev (Ev.move rfl) rfl ?_) | refine OpsE.no rfl rfl rfl ?_ | refine OpsE.off rfl rfl rfl ?_
    first | (refine OpsE.yes rfl rfl ?_; refine OpsE.ex (Ex.call rfl Tryz.call20 (freen_spec s p 0 3 m1 0 o1 [] (by omega) (by decide) w _ (.head _) (.tail _ (.head _)) ho1 H)) rfl ?_; (try clear H); rintro _ w ⟨rfl, H⟩) | refine OpsE.no rfl rfl rfl ?_ | refine OpsE.off rfl rfl rfl ?_
    first | (refine OpsE.yes rfl rfl ?_; refine OpsE.ev (Ev.eql (r := true) rfl rfl rfl) rfl ?_) | refine OpsE.no rfl rfl rfl ?_ | refine OpsE.off rfl rfl rfl ?_
    refine OpsE.ev ((by first | exact Ev.pickT rfl rfl | exact Ev.pickF rfl rfl)) rfl ?_
    refine OpsE.ev (Ev.move rfl) rfl ?_
    first | (refine OpsE.yes rfl rfl ?_; refine OpsE.ex (Ex.call rfl Tryz.call8 (shsure_spec w _ (Rd.tail (Rd.tail (Rd.right hgB))) H)) rfl ?_; (try clear H); rintro _ w ⟨rfl, H⟩) | refine OpsE.no rfl rfl rfl ?_ | refine OpsE.off rfl rfl rfl ?_
    refine OpsE.ev ((by first | exact Ev.pickT rfl rfl | exact Ev.pickF rfl rfl)) rfl ?_
    refine OpsE.ev (Ev.assign rfl) rfl ?_
    refine OpsE.nil ?_
    repeat (first | refine .seq ?_ | refine .skip ?_ | refine .block ?_ | refine .inBlock ?_ | refine .yes rfl ?_ | refine .no rfl ?_ | refine .exit rfl ?_)
    exact RunsE.ret1 Tryz.func5 rfl rfl ⟨rfl, hfin H.drop.drop.dropL⟩
  rw [List.concat_eq_append] at *
  have hx : x.length ≤ 50 := hsz x (by simp)
  have hk' : key.length ≤ 50 := by omega
  rw [one_first hk' hx] at e1
  obtain ⟨a1, a2, a3, a4, a5, a6, a7, a8, -, -⟩ := e1
  simp only at a1 a2 a7
  have hok1 : OkL [⟨key, x, 1⟩] 3 := by have := set_ok (c := oneC key (us' ++ [x])) hok0; rw [one_first hk' hx] at this; exact this
  obtain ⟨R2, hR2⟩ : ∃ R2, R2 = setP R1.1 0 3 [⟨key, x, 1⟩] 0 (oneC key (us' ++ [x])) := ⟨_, rfl⟩
  have e2 := set_up (st := R1.1) (oneC key (us' ++ [x])) a4 a5 a8 a7 hok1 (by omega) (by omega)
  rw [← hR2, one_again] at e2
  obtain ⟨c1, c2, c3, c4, c5, c6, c7, c8, -, -⟩ := e2
  simp only at c1 c2 c7
  obtain ⟨R3, hR3⟩ : ∃ R3, R3 = setP R2.1 0 3 [⟨key, x, 1⟩] 0 [⟨key, [], true⟩] := ⟨_, rfl⟩
  have e3 := set_up (st := R2.1) [⟨key, [], true⟩] c4 c5 c8 c7 hok1 (by omega) (by omega)
  rw [← hR3, one_gone] at e3
  obtain ⟨d1, d2, d3, d4, d5, d6, d7, d8, -, -⟩ := e3
  simp only at d1 d2 d7
  have hgb : ∀ c ∈ ([⟨key, [], true⟩] : List Ch), c.key.length ≤ 100000 ∧ c.val.length ≤ 100000 := by
    intro c hc
    obtain rfl := List.mem_singleton.1 hc
    exact ⟨by simp only; omega, by simp⟩
  have hul2 : us'.length + 1 ≤ 10 := by simpa using hul
  have hlen2 : (oneC key (us' ++ [x])).length = us'.length + 1 := by rw [hlen]; simp
  rw [hlen2] at hcb hva
  rw [hlen2]
  repeat (first | refine .seq ?_ | refine .skip ?_ | refine .block ?_ | refine .inBlock ?_ | refine .yes rfl ?_ | refine .no rfl ?_ | refine .exit rfl ?_)
  refine RunsE.region ?_
  refine OpsE.ev (Ev.move rfl) rfl ?_
  refine OpsE.ev (Ev.move rfl) rfl ?_
  refine OpsE.ex (Ex.call rfl Tryz.call16 (set_spec s p 0 3 m 0 o (St.new 3) [] (oneC key (us' ++ [x])) _ A hok0 (by omega) (by omega) (by omega) (by decide) (by omega) hbig w (B ++ F) hva ho hA H)) rfl ?_; (try clear H); rintro _ w ⟨m1, o1, A1, rfl, ho1, hA1, H⟩; rw [← hR1, a2] at ho1; rw [← hR1] at hA1; rw [← hR1, a3] at H; rw [← hR1, a1]
  refine OpsE.ev (Ev.errNe (n := 0) rfl rfl) rfl ?_
  refine OpsE.nil ?_
  repeat refine RunsE.seq ?_
  refine RunsE.no rfl ?_
  repeat (first | refine .seq ?_ | refine .skip ?_ | refine .block ?_ | refine .inBlock ?_ | refine .yes rfl ?_ | refine .no rfl ?_ | refine .exit rfl ?_)
  refine RunsE.region ?_
  refine OpsE.ev (Ev.move rfl) rfl ?_
  refine OpsE.ev (Ev.move rfl) rfl ?_
  refine OpsE.ex (Ex.call rfl Tryz.call19 (get_spec s p 0 3 m1 0 o1 [⟨key, x, 1⟩] key w _ (.head _) (.tail _ (.head _)) ho1 H)) rfl ?_; (try clear H); rintro _ w ⟨rfl, H⟩; rw [find_self (y := ⟨key, x, 1⟩)]
  refine OpsE.ev (Ev.move rfl) rfl ?_
  refine OpsE.ev (Ev.extract (v := sV x) rfl rfl) rfl ?_
  refine OpsE.ev (Ev.extract (v := .bool true) rfl rfl) rfl ?_
  refine OpsE.ev (Ev.assign rfl) rfl ?_
  refine OpsE.ev (Ev.assign rfl) rfl ?_
  refine OpsE.nil ?_
  repeat (first | refine .seq ?_ | refine .skip ?_ | refine .block ?_ | refine .inBlock ?_ | refine .yes rfl ?_ | refine .no rfl ?_ | refine .exit rfl ?_)
  refine RunsE.region ?_
  refine OpsE.ev (Ev.move rfl) rfl ?_
  refine OpsE.ev (Ev.lenSl (d := 53) rfl rfl (by kernel_rfl)) rfl ?_
  refine OpsE.ev (Ev.eql (r := false) rfl rfl (by simp only [beq_eq_false_iff_ne, ne_eq]; omega)) rfl ?_
  refine OpsE.nil ?_
  repeat refine RunsE.seq ?_
  refine RunsE.no rfl ?_
  obtain ⟨bl, ol, rfl, hat⟩ := hva.at (oneC_at (k := key) (v := x) (vs := us'))
  repeat (first | refine .seq ?_ | refine .skip ?_ | refine .block ?_ | refine .inBlock ?_ | refine .yes rfl ?_ | refine .no rfl ?_ | refine .exit rfl ?_)
  refine RunsE.region ?_
  refine OpsE.ev (Ev.move rfl) rfl ?_
  refine OpsE.ev (Ev.not (r := true) rfl) rfl ?_
  refine OpsE.ev (Ev.move rfl) rfl ?_
  first | (refine OpsE.yes rfl rfl ?_; refine OpsE.ev (Ev.move rfl) rfl ?_) | refine OpsE.no rfl rfl rfl ?_ | refine OpsE.off rfl rfl rfl ?_
  first | (refine OpsE.yes rfl rfl ?_; refine OpsE.ev (Ev.move rfl) rfl ?_) | refine OpsE.no rfl rfl rfl ?_ | refine OpsE.off rfl rfl rfl ?_
  first | (refine OpsE.yes rfl rfl ?_; refine OpsE.ev (Ev.move rfl) rfl ?_) | refine OpsE.no rfl rfl rfl ?_ | refine OpsE.off rfl rfl rfl ?_
  first | (refine OpsE.yes rfl rfl ?_; refine OpsE.ev (Ev.lenSl (d := 53) rfl rfl (by kernel_rfl)) rfl ?_) | refine OpsE.no rfl rfl rfl ?_ | refine OpsE.off rfl rfl rfl ?_
  first | (refine OpsE.yes rfl rfl ?_; refine OpsE.ev (Ev.sub (c := (us'.length : Int)) rfl rfl (by rw [show ((us'.length + 1 : Nat) : Int) - 1 = (us'.length : Int) by omega]; exact qi64 (by omega) (by omega))) rfl ?_) | refine OpsE.no rfl rfl rfl ?_ | refine OpsE.off rfl rfl rfl ?_
  first | (refine OpsE.yes rfl rfl ?_; refine OpsE.ev (Ev.iaSl (n := 53) (sz := 3) (m := us'.length) (o := ol + us'.length * 3) rfl rfl rfl (by kernel_rfl) (by omega)) rfl ?_) | refine OpsE.no rfl rfl rfl ?_ | refine OpsE.off rfl rfl rfl ?_
  first | (refine OpsE.yes rfl rfl ?_; refine OpsE.ev (Ev.fieldAddr (o := 1) (o' := ol + us'.length * 3 + 1) rfl (by kernel_rfl) (by omega)) rfl ?_) | refine OpsE.no rfl rfl rfl ?_ | refine OpsE.off rfl rfl rfl ?_
  first | (refine OpsE.yes rfl rfl ?_; refine OpsE.ev (Ev.load (v := sV x) H rfl (by kernel_rfl) (Rd.tail (Rd.tail (Rd.right (hat 1 _ rfl))))) rfl ?_) | refine OpsE.no rfl rfl rfl ?_ | refine OpsE.off rfl rfl rfl ?_
  first | (refine OpsE.yes rfl rfl ?_; refine OpsE.ev (Ev.strNeR (cs := x) (bs := x) (r := false) rfl rfl (decide_eq_false (by simp))) rfl ?_) | refine OpsE.no rfl rfl rfl ?_ | refine OpsE.off rfl rfl rfl ?_
  refine OpsE.ev ((by first | exact Ev.pickT rfl rfl | exact Ev.pickF rfl rfl)) rfl ?_
  refine OpsE.ev (Ev.move rfl) rfl ?_
  first | (refine OpsE.yes rfl rfl ?_; refine OpsE.ev (Ev.move rfl) rfl ?_) | refine OpsE.no rfl rfl rfl ?_ | refine OpsE.off rfl rfl rfl ?_
  first | (refine OpsE.yes rfl rfl ?_; refine OpsE.ex (Ex.call rfl Tryz.call20 (freen_spec s p 0 3 m1 0 o1 [⟨key, x, 1⟩] (by omega) (by simp) w _ (.head _) (.tail _ (.head _)) ho1 H)) rfl ?_; (try clear H); rintro _ w ⟨rfl, H⟩) | refine OpsE.no rfl rfl rfl ?_ | refine OpsE.off rfl rfl rfl ?_
  first | (refine OpsE.yes rfl rfl ?_; refine OpsE.ev (Ev.neq (r := false) rfl rfl rfl) rfl ?_) | refine OpsE.no rfl rfl rfl ?_ | refine OpsE.off rfl rfl rfl ?_
  refine OpsE.ev ((by first | exact Ev.pickT rfl rfl | exact Ev.pickF rfl rfl)) rfl ?_
  refine OpsE.ev (Ev.move rfl) rfl ?_
  first | (refine OpsE.yes rfl rfl ?_; refine OpsE.ev (Ev.move rfl) rfl ?_) | refine OpsE.no rfl rfl rfl ?_ | refine OpsE.off rfl rfl rfl ?_
  first | (refine OpsE.yes rfl rfl ?_; refine OpsE.ev (Ev.move rfl) rfl ?_) | refine OpsE.no rfl rfl rfl ?_ | refine OpsE.off rfl rfl rfl ?_
  first | (refine OpsE.yes rfl rfl ?_; refine OpsE.ex (Ex.call rfl Tryz.call16 (set_spec s p 0 3 m1 0 o1 R1.1 [⟨key, x, 1⟩] (oneC key (us' ++ [x])) _ A1 hok1 (by omega) (by omega) (by omega) (by rw [a5]; decide) (by omega) hbig w (B ++ F) hva ho1 hA1 H)) rfl ?_; (try clear H); rintro _ w ⟨m2, o2, A2, rfl, ho2, hA2, H⟩; rw [← hR2, c2] at ho2; rw [← hR2] at hA2; rw [← hR2, c3] at H; rw [← hR2, c1]) | refine OpsE.no rfl rfl rfl ?_ | refine OpsE.off rfl rfl rfl ?_
  first | (refine OpsE.yes rfl rfl ?_; refine OpsE.ev (Ev.errNe (n := 0) rfl rfl) rfl ?_) | refine OpsE.no rfl rfl rfl ?_ | refine OpsE.off rfl rfl rfl ?_
  refine OpsE.ev ((by first | exact Ev.pickT rfl rfl | exact Ev.pickF rfl rfl)) rfl ?_
  refine OpsE.ev (Ev.move rfl) rfl ?_
  first | (refine OpsE.yes rfl rfl ?_; refine OpsE.ev (Ev.move rfl) rfl ?_) | refine OpsE.no rfl rfl rfl ?_ | refine OpsE.off rfl rfl rfl ?_
  first | (refine OpsE.yes rfl rfl ?_; refine OpsE.ex (Ex.call rfl Tryz.call20 (freen_spec s p 0 3 m2 0 o2 [⟨key, x, 1⟩] (by omega) (by simp) w _ (.head _) (.tail _ (.head _)) ho2 H)) rfl ?_; (try clear H); rintro _ w ⟨rfl, H⟩) | refine OpsE.no rfl rfl rfl ?_ | refine OpsE.off rfl rfl rfl ?_
  first | (refine OpsE.yes rfl rfl ?_; refine OpsE.ev (Ev.neq (r := false) rfl rfl rfl) rfl ?_) | refine OpsE.no rfl rfl rfl ?_ | refine OpsE.off rfl rfl rfl ?_
  refine OpsE.ev ((by first | exact Ev.pickT rfl rfl | exact Ev.pickF rfl rfl)) rfl ?_
  refine OpsE.nil ?_
  repeat refine RunsE.seq ?_
  refine RunsE.no rfl ?_
  repeat (first | refine .seq ?_ | refine .skip ?_ | refine .block ?_ | refine .inBlock ?_ | refine .yes rfl ?_ | refine .no rfl ?_ | refine .exit rfl ?_)
  refine RunsE.region ?_
  refine OpsE.ev (Ev.move rfl) rfl ?_
  refine OpsE.ev (Ev.move rfl) rfl ?_
  refine OpsE.ev (Ev.buildSt (pl := [(0, 1), (1, 1), (2, 1)]) (zv := .agg #[.string .empty, .string .empty, .bool false]) rfl (by kernel_rfl) (by kernel_rfl) rfl) rfl ?_
  refine OpsE.ex (Ex.buildSlP (len := 1) (sz := 3) (T := 53) (zv := .agg #[.string .empty, .string .empty, .bool false]) (cs := gC (⟨key, [], true⟩ : Ch)) H rfl (by kernel_rfl) (by kernel_rfl) rfl (by decide) (by decide)) rfl ?_; (try clear H); rintro _ w ⟨b32, rfl, H⟩; obtain ⟨Y1, hY1⟩ : ∃ Y1, Y1 = (b32, Obj.cells (gC (⟨key, [], true⟩ : Ch)).toArray 53 (0, 0)) :: (B ++ F) := ⟨_, rfl⟩; have hs1 : Slc gC 3 53 (.slice (some ⟨b32, 0, none⟩) 1 1) (goneC key) [(b32, Obj.cells (gC (⟨key, [], true⟩ : Ch)).toArray 53 (0, 0))] := .blk b32 (goneC key) 1 [] (0, 0) (by simp) (by simp) (Thaw.zero _ _); have hv1 : ElsA 3 (ChAt Y1) (.slice (some ⟨b32, 0, none⟩) 1 1) (goneC key) := (by rw [hY1]; exact hs1.chAt (L := B ++ F)); replace H : SL w ((s, shO p 0 3 m2 0) :: (m2, o2) :: (A2 ++ Y1)) := H.perm (by rw [hY1]; exact perm_of fun a => by simp only [List.count_append, List.count_cons]; omega)
  refine OpsE.ex (Ex.call rfl Tryz.call16 (set_spec s p 0 3 m2 0 o2 R2.1 [⟨key, x, 1⟩] (goneC key) _ A2 hok1 (by omega) (by omega) (by omega) (by rw [c5]; decide) (by simp) hgb w Y1 hv1 ho2 hA2 H)) rfl ?_; (try clear H); rintro _ w ⟨m3, o3, A3, rfl, ho3, hA3, H⟩; rw [← hR3, d2] at ho3; rw [← hR3] at hA3; rw [← hR3, d3, hY1] at H; rw [← hR3, d1]
  refine OpsE.ev (Ev.errEq (n := 0) rfl rfl) rfl ?_
  refine OpsE.ev (Ev.move rfl) rfl ?_
  first | (refine OpsE.yes rfl rfl ?_; refine OpsE.ev (Ev.move rfl) rfl ?_) | refine OpsE.no rfl rfl rfl ?_ | refine OpsE.off rfl rfl rfl ?_
  first | (refine OpsE.yes rfl rfl ?_; refine OpsE.ex (Ex.call rfl Tryz.call20 (freen_spec s p 0 3 m3 0 o3 [] (by omega) (by decide) w _ (.head _) (.tail _ (.head _)) ho3 H)) rfl ?_; (try clear H); rintro _ w ⟨rfl, H⟩) | refine OpsE.no rfl rfl rfl ?_ | refine OpsE.off rfl rfl rfl ?_
  first | (refine OpsE.yes rfl rfl ?_; refine OpsE.ev (Ev.eql (r := true) rfl rfl rfl) rfl ?_) | refine OpsE.no rfl rfl rfl ?_ | refine OpsE.off rfl rfl rfl ?_
  refine OpsE.ev ((by first | exact Ev.pickT rfl rfl | exact Ev.pickF rfl rfl)) rfl ?_
  refine OpsE.ev (Ev.move rfl) rfl ?_
  first | (refine OpsE.yes rfl rfl ?_; refine OpsE.ev (Ev.move rfl) rfl ?_) | refine OpsE.no rfl rfl rfl ?_ | refine OpsE.off rfl rfl rfl ?_
  first | (refine OpsE.yes rfl rfl ?_; refine OpsE.ex (Ex.call rfl Tryz.call21 (keys_spec s p 0 3 m3 0 o3 [] (by decide) .nil w _ (.head _) (.tail _ (.head _)) ho3 H)) rfl ?_; (try clear H); rintro vk w ⟨Bk, hk, H⟩; obtain ⟨ak, ck, rfl, hck⟩ := hk.leCap) | refine OpsE.no rfl rfl rfl ?_ | refine OpsE.off rfl rfl rfl ?_
  first | (refine OpsE.yes rfl rfl ?_; refine OpsE.ev (Ev.lenSl (d := 9) rfl rfl (by kernel_rfl)) rfl ?_) | refine OpsE.no rfl rfl rfl ?_ | refine OpsE.off rfl rfl rfl ?_
  first | (refine OpsE.yes rfl rfl ?_; refine OpsE.ev (Ev.eql (r := true) rfl rfl rfl) rfl ?_) | refine OpsE.no rfl rfl rfl ?_ | refine OpsE.off rfl rfl rfl ?_
  refine OpsE.ev ((by first | exact Ev.pickT rfl rfl | exact Ev.pickF rfl rfl)) rfl ?_
  refine OpsE.ev (Ev.move rfl) rfl ?_
  first | (refine OpsE.yes rfl rfl ?_; refine OpsE.ex (Ex.call rfl Tryz.call8 (shsure_spec w _ (Rd.right (Rd.tail (Rd.tail (Rd.right (Rd.tail hgB))))) H)) rfl ?_; (try clear H); rintro _ w ⟨rfl, H⟩) | refine OpsE.no rfl rfl rfl ?_ | refine OpsE.off rfl rfl rfl ?_
  refine OpsE.ev ((by first | exact Ev.pickT rfl rfl | exact Ev.pickF rfl rfl)) rfl ?_
  refine OpsE.ev (Ev.assign rfl) rfl ?_
  refine OpsE.nil ?_
  repeat (first | refine .seq ?_ | refine .skip ?_ | refine .block ?_ | refine .inBlock ?_ | refine .yes rfl ?_ | refine .no rfl ?_ | refine .exit rfl ?_)
  exact RunsE.ret1 Tryz.func5 rfl rfl ⟨rfl, hfin H.dropL.drop.drop.dropL.drop⟩

end Go.Proofs.YtflfaiakenahlaaGreatDoor
