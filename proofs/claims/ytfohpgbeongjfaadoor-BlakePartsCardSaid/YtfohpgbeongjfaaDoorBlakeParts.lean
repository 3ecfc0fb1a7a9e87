/-
  The statement 'BlakeParts': its function, walked.
-/
import Derived.Test.YtfohpgbeongjfaaDoorBlakeKeyed
import Derived.Test.YtfohpgbeongjfaaDoorVEls
namespace Go.Proofs.YtfohpgbeongjfaaDoor.V

theorem SL.swapL [Strm] {w : World} {A B F : List (Nat × Obj)} (h : SL w (A ++ (B ++ F))) : SL w (B ++ (A ++ F)) :=
  h.perm (by rw [← List.append_assoc, ← List.append_assoc]; exact List.perm_append_comm.append_right F)

theorem SL.headL [Strm] {w : World} {A F : List (Nat × Obj)} {x : Nat × Obj} (h : SL w (x :: (A ++ F))) : SL w (A ++ x :: F) := h.mid

section
variable {P : Program} {w : World} {e : Env} {ty t : TypeId} {x y : Operand}
theorem Ev.bytesNeF {n : Nat} {xs : List UInt8} {t' : TypeId} (hx : e.val x = some (.agg (xs.map BV).toArray)) (hy : e.val y = some (.agg (xs.map BV).toArray)) (ht : bytesArr P t = some n) (h1 : xs.length = n) :
    Ev P w e (.binOp .neq t x y t') ty (.bool false) := by
  have := Ev.bytesNe (P := P) (w := w) (ty := ty) (t := t) (t' := t') hx hy ht h1 h1
  rw [beq_self_eq_true] at this
  exact this
end

end Go.Proofs.YtfohpgbeongjfaaDoor.V
namespace Go.Proofs.YtfohpgbeongjfaaDoor
open Go.Proofs.YtfohpgbeongjfaaDoor.V

set_option maxHeartbeats 1000000 in
theorem partslaw_spec [Strm] (key : List UInt8) (ls : List (List UInt8)) (vk vl : Value) (hk63 : key.length ≤ 9223372036854775807) (w : World) (F : List (Nat × Obj)) (hvk : Inp F vk key) (hvl : Els F (Inp F) vl ls)
    (hG : OrderIn F) (hE : ErrIn F) (H : SL w F) : Does Tryd.prog 6 #[vk, vl] w fun r w' => r = .bool true ∧ SL w' F := by
  obtain ⟨ak, ck, rfl, hck⟩ := hvk.len
  obtain ⟨al, cl, rfl, hcl⟩ := hvl.len
  refine Does.intro (args := [_, _]) (e := [(0, _), (1, _)]) Tryd.func6 rfl Tryd.ntmps6 rfl rfl ?_
  repeat (first | refine RunsE.seq ?_ | refine RunsE.skip ?_ | refine RunsE.block ?_ | refine RunsE.inBlock ?_ | refine RunsE.yes rfl ?_ | refine RunsE.no rfl ?_ | refine RunsE.exit rfl ?_)
  repeat (first | refine RunsE.seq ?_ | refine RunsE.skip ?_ | refine RunsE.block ?_ | refine RunsE.inBlock ?_ | refine RunsE.yes rfl ?_ | refine RunsE.no rfl ?_ | refine RunsE.exit rfl ?_)
  refine RunsE.region ?_
  refine OpsE.ev (Ev.assign rfl) rfl ?_
  refine OpsE.nil ?_
  repeat (first | refine RunsE.seq ?_ | refine RunsE.skip ?_ | refine RunsE.block ?_ | refine RunsE.inBlock ?_ | refine RunsE.yes rfl ?_ | refine RunsE.no rfl ?_ | refine RunsE.exit rfl ?_)
  refine RunsE.region ?_
  refine OpsE.ev (Ev.assign rfl) rfl ?_
  refine OpsE.nil ?_
  repeat (first | refine RunsE.seq ?_ | refine RunsE.skip ?_ | refine RunsE.block ?_ | refine RunsE.inBlock ?_ | refine RunsE.yes rfl ?_ | refine RunsE.no rfl ?_ | refine RunsE.exit rfl ?_)
  refine RunsE.region ?_
  refine OpsE.ev (Ev.move rfl) rfl ?_
  refine OpsE.ev (Ev.move rfl) rfl ?_
  refine OpsE.ex (Ex.call rfl Tryd.call15 (nwrite_spec _ w _ H)) rfl ?_; (try clear H); rintro _ w ⟨rfl, H⟩
  refine OpsE.nil ?_
  repeat (first | refine RunsE.seq ?_ | refine RunsE.skip ?_ | refine RunsE.block ?_ | refine RunsE.inBlock ?_ | refine RunsE.yes rfl ?_ | refine RunsE.no rfl ?_ | refine RunsE.exit rfl ?_)
  refine RunsE.region ?_
  refine OpsE.ev (Ev.move rfl) rfl ?_
  refine OpsE.ex (Ex.call rfl Tryd.call16 (nsum_spec w _ H)) rfl ?_; (try clear H); rintro _ w ⟨rfl, H⟩
  refine OpsE.ev (Ev.buildZero (n := 32) (sz := 1) (zv := .agg (List.replicate 32 (.int .u8 0)).toArray) (by kernel_rfl) (by kernel_rfl)) rfl ?_
  refine OpsE.ev (Ev.bytesNeF (n := 32) (xs := List.replicate 32 0) rfl rfl (by kernel_rfl) rfl) rfl ?_
  refine OpsE.ev (Ev.move rfl) rfl ?_
  first | (refine OpsE.yes rfl rfl ?_; refine OpsE.ev (Ev.move rfl) rfl ?_) | refine OpsE.no rfl rfl rfl ?_ | refine OpsE.off rfl rfl rfl ?_
  first | (refine OpsE.yes rfl rfl ?_; refine OpsE.ex (Ex.call rfl Tryd.call17 (nlen_spec w _ H)) rfl ?_; (try clear H); rintro _ w ⟨rfl, H⟩) | refine OpsE.no rfl rfl rfl ?_ | refine OpsE.off rfl rfl rfl ?_
  first | (refine OpsE.yes rfl rfl ?_; refine OpsE.ev (Ev.neq rfl rfl) rfl ?_) | refine OpsE.no rfl rfl rfl ?_ | refine OpsE.off rfl rfl rfl ?_
  refine OpsE.ev ((by first | exact Ev.pickT rfl rfl | exact Ev.pickF rfl rfl)) rfl ?_
  refine OpsE.nil ?_
  by_cases hk : 32 < key.length
  ·
    repeat (first | refine RunsE.seq ?_ | refine RunsE.skip ?_ | refine RunsE.block ?_ | refine RunsE.inBlock ?_ | refine RunsE.yes rfl ?_ | refine RunsE.no rfl ?_ | refine RunsE.exit rfl ?_)
    refine RunsE.region ?_
    refine OpsE.ev (Ev.move rfl) rfl ?_
    refine OpsE.ex (Ex.call rfl Tryd.call18 (new_long key _ hk hk63 w _ hvk H)) rfl ?_; (try clear H); rintro _ w ⟨rfl, H⟩
    refine OpsE.ev (Ev.move rfl) rfl ?_
    refine OpsE.ev (Ev.extract rfl rfl) rfl ?_
    refine OpsE.ev (Ev.extract rfl rfl) rfl ?_
    refine OpsE.ev (Ev.assign rfl) rfl ?_
    refine OpsE.ev (Ev.assign rfl) rfl ?_
    refine OpsE.nil ?_
    repeat (first | refine RunsE.seq ?_ | refine RunsE.skip ?_ | refine RunsE.block ?_ | refine RunsE.inBlock ?_ | refine RunsE.yes rfl ?_ | refine RunsE.no rfl ?_ | refine RunsE.exit rfl ?_)
    refine RunsE.region ?_
    refine OpsE.ev (Ev.move rfl) rfl ?_
    refine OpsE.ev (Ev.lenSl (d := 5) rfl rfl (by kernel_rfl)) rfl ?_
    refine OpsE.ev (Ev.gtr (r := true) rfl rfl (decide_eq_true (by omega))) rfl ?_
    refine OpsE.nil ?_
    repeat (first | refine RunsE.seq ?_ | refine RunsE.skip ?_ | refine RunsE.block ?_ | refine RunsE.inBlock ?_ | refine RunsE.yes rfl ?_ | refine RunsE.no rfl ?_ | refine RunsE.exit rfl ?_)
    refine RunsE.region ?_
    refine OpsE.ev (Ev.move rfl) rfl ?_
    refine OpsE.ex (Ex.call rfl Tryd.call14 (num_spec 2 w _ hE H)) rfl ?_; (try clear H); rintro _ w ⟨rfl, H⟩
    refine OpsE.ev (Ev.eql rfl rfl) rfl ?_
    refine OpsE.ev (Ev.move rfl) rfl ?_
    first | (refine OpsE.yes rfl rfl ?_; refine OpsE.ev (Ev.move rfl) rfl ?_) | refine OpsE.no rfl rfl rfl ?_ | refine OpsE.off rfl rfl rfl ?_
    first | (refine OpsE.yes rfl rfl ?_; refine OpsE.ev (Ev.ptrNilEq (el := 52) rfl rfl (by kernel_rfl)) rfl ?_) | refine OpsE.no rfl rfl rfl ?_ | refine OpsE.off rfl rfl rfl ?_
    refine OpsE.ev ((by first | exact Ev.pickT rfl rfl | exact Ev.pickF rfl rfl)) rfl ?_
    refine OpsE.ev (Ev.move rfl) rfl ?_
    first | (refine OpsE.yes rfl rfl ?_; refine OpsE.ex (Ex.call rfl Tryd.call7 (sure_spec w _ hG H)) rfl ?_; (try clear H); rintro _ w ⟨rfl, H⟩) | refine OpsE.no rfl rfl rfl ?_ | refine OpsE.off rfl rfl rfl ?_
    refine OpsE.ev ((by first | exact Ev.pickT rfl rfl | exact Ev.pickF rfl rfl)) rfl ?_
    refine OpsE.ev (Ev.assign rfl) rfl ?_
    refine OpsE.nil ?_
    repeat (first | refine RunsE.seq ?_ | refine RunsE.skip ?_ | refine RunsE.block ?_ | refine RunsE.inBlock ?_ | refine RunsE.yes rfl ?_ | refine RunsE.no rfl ?_ | refine RunsE.exit rfl ?_)
    exact RunsE.ret1 Tryd.func6 rfl rfl ⟨rfl, H⟩
  repeat (first | refine RunsE.seq ?_ | refine RunsE.skip ?_ | refine RunsE.block ?_ | refine RunsE.inBlock ?_ | refine RunsE.yes rfl ?_ | refine RunsE.no rfl ?_ | refine RunsE.exit rfl ?_)
  refine RunsE.region ?_
  refine OpsE.ev (Ev.move rfl) rfl ?_
  refine OpsE.ex (Ex.call rfl Tryd.call18 (new_spec key _ (by omega) w _ hvk H)) rfl ?_; (try clear H); rintro _ w ⟨b, A, rfl, hA, H⟩
  refine OpsE.ev (Ev.move rfl) rfl ?_
  refine OpsE.ev (Ev.extract rfl rfl) rfl ?_
  refine OpsE.ev (Ev.extract rfl rfl) rfl ?_
  refine OpsE.ev (Ev.assign rfl) rfl ?_
  refine OpsE.ev (Ev.assign rfl) rfl ?_
  refine OpsE.nil ?_
  repeat (first | refine RunsE.seq ?_ | refine RunsE.skip ?_ | refine RunsE.block ?_ | refine RunsE.inBlock ?_ | refine RunsE.yes rfl ?_ | refine RunsE.no rfl ?_ | refine RunsE.exit rfl ?_)
  refine RunsE.region ?_
  refine OpsE.ev (Ev.move rfl) rfl ?_
  refine OpsE.ev (Ev.lenSl (d := 5) rfl rfl (by kernel_rfl)) rfl ?_
  refine OpsE.ev (Ev.gtr (r := false) rfl rfl (decide_eq_false (by omega))) rfl ?_
  refine OpsE.nil ?_
  repeat (first | refine RunsE.seq ?_ | refine RunsE.skip ?_ | refine RunsE.block ?_ | refine RunsE.inBlock ?_ | refine RunsE.yes rfl ?_ | refine RunsE.no rfl ?_ | refine RunsE.exit rfl ?_)
  refine RunsE.region ?_
  refine OpsE.ev (Ev.move rfl) rfl ?_
  refine OpsE.ev (Ev.ifNilNeF rfl Tryd.underlying31) rfl ?_
  refine OpsE.ev (Ev.move rfl) rfl ?_
  first | (refine OpsE.yes rfl rfl ?_; refine OpsE.ev (Ev.move rfl) rfl ?_) | refine OpsE.no rfl rfl rfl ?_ | refine OpsE.off rfl rfl rfl ?_
  first | (refine OpsE.yes rfl rfl ?_; refine OpsE.ev (Ev.ptrNilEq (el := 52) rfl rfl (by kernel_rfl)) rfl ?_) | refine OpsE.no rfl rfl rfl ?_ | refine OpsE.off rfl rfl rfl ?_
  refine OpsE.ev ((by first | exact Ev.pickT rfl rfl | exact Ev.pickF rfl rfl)) rfl ?_
  refine OpsE.nil ?_
  repeat (first | refine RunsE.seq ?_ | refine RunsE.skip ?_ | refine RunsE.block ?_ | refine RunsE.inBlock ?_ | refine RunsE.yes rfl ?_ | refine RunsE.no rfl ?_ | refine RunsE.exit rfl ?_)
  refine RunsE.region ?_
  refine OpsE.ev (Ev.assign rfl) rfl ?_
  refine OpsE.nil ?_
  repeat (first | refine RunsE.seq ?_ | refine RunsE.skip ?_ | refine RunsE.block ?_ | refine RunsE.inBlock ?_ | refine RunsE.yes rfl ?_ | refine RunsE.no rfl ?_ | refine RunsE.exit rfl ?_)
  refine RunsE.region ?_
  refine OpsE.ev (Ev.assign rfl) rfl ?_
  refine OpsE.nil ?_
  refine RunsE.join (fun v : Value => [(0, .slice ak key.length ck), (6, .pointer (some ⟨b, 0, none⟩)), (8, v)])
    (fun v w => ∃ (xs : List UInt8) (A B : List (Nat × Obj)), Held 52 5 (h0 key.length) (keyed key ++ xs) xs.length b A ∧ Slc gB 1 5 v xs B ∧ xs.length ≤ 2500 ∧ SL w (B ++ (A ++ F))) (fun next => ?_) ?_
  · refine RunsE.block ?_
    refine RunsE.loop (fun s : Nat × Value × List UInt8 => [(0, .slice ak key.length ck), (1, .slice al ls.length cl), (6, .pointer (some ⟨b, 0, none⟩)), (8, s.2.1), (9, .int .i64 (s.1 : Int))])
      (fun s w => s.1 ≤ 12 ∧ ∃ (A B : List (Nat × Obj)), Held 52 5 (h0 key.length) (keyed key ++ s.2.2) s.2.2.length b A ∧ Slc gB 1 5 s.2.1 s.2.2 B ∧ s.2.2.length ≤ 2500 ∧ SL w (B ++ (A ++ F)))
      (fun s => 12 - s.1) (0, .slice none 0 0, []) ⟨rfl, rfl, rfl, rfl, rfl, trivial⟩ ⟨by omega, A, [], by rw [List.append_nil]; exact hA, .nil, by simp, H⟩ ?_
    clear H hA A
    rintro ⟨i, v, xs⟩ w ⟨hi, A, B, hA, hs, hx, H⟩ nextL
    simp only at hi hA hs hx H ⊢
    obtain ⟨av, cv, rfl⟩ := hs.len
    by_cases h1 : ls.length ≤ i
    ·
      repeat (first | refine RunsE.seq ?_ | refine RunsE.skip ?_ | refine RunsE.block ?_ | refine RunsE.inBlock ?_ | refine RunsE.yes rfl ?_ | refine RunsE.no rfl ?_ | refine RunsE.exit rfl ?_)
      refine RunsE.region ?_
      refine OpsE.ev (Ev.move rfl) rfl ?_
      refine OpsE.ev (Ev.move rfl) rfl ?_
      refine OpsE.ev (Ev.lenSl (d := 22) rfl rfl (by kernel_rfl)) rfl ?_
      refine OpsE.ev (Ev.lss (r := false) rfl rfl (decide_eq_false (by omega))) rfl ?_
      refine OpsE.ev (Ev.move rfl) rfl ?_
      first | (refine OpsE.yes rfl rfl ?_; refine OpsE.ev (Ev.move rfl) rfl ?_) | refine OpsE.no rfl rfl rfl ?_ | refine OpsE.off rfl rfl rfl ?_
      first | (refine OpsE.yes rfl rfl ?_; refine OpsE.ev (Ev.lss rfl rfl) rfl ?_) | refine OpsE.no rfl rfl rfl ?_ | refine OpsE.off rfl rfl rfl ?_
      refine OpsE.ev ((by first | exact Ev.pickT rfl rfl | exact Ev.pickF rfl rfl)) rfl ?_
      refine OpsE.ev (Ev.move rfl) rfl ?_
      first | (refine OpsE.yes rfl rfl ?_; refine OpsE.ev (Ev.move rfl) rfl ?_) | refine OpsE.no rfl rfl rfl ?_ | refine OpsE.off rfl rfl rfl ?_
      first | (refine OpsE.yes rfl rfl ?_; refine OpsE.ev (Ev.lenSl (d := 5) rfl rfl (by kernel_rfl)) rfl ?_) | refine OpsE.no rfl rfl rfl ?_ | refine OpsE.off rfl rfl rfl ?_
      first | (refine OpsE.yes rfl rfl ?_; refine OpsE.ev (Ev.lss rfl rfl) rfl ?_) | refine OpsE.no rfl rfl rfl ?_ | refine OpsE.off rfl rfl rfl ?_
      refine OpsE.ev ((by first | exact Ev.pickT rfl rfl | exact Ev.pickF rfl rfl)) rfl ?_
      refine OpsE.nil ?_
      refine RunsE.no rfl ?_
      refine RunsE.exit rfl ?_
      exact next _ _ _ ⟨xs, A, B, hA, hs, hx, H⟩ ⟨rfl, rfl, rfl, trivial⟩
    by_cases h2 : i = 12
    ·
      repeat (first | refine RunsE.seq ?_ | refine RunsE.skip ?_ | refine RunsE.block ?_ | refine RunsE.inBlock ?_ | refine RunsE.yes rfl ?_ | refine RunsE.no rfl ?_ | refine RunsE.exit rfl ?_)
      refine RunsE.region ?_
      refine OpsE.ev (Ev.move rfl) rfl ?_
      refine OpsE.ev (Ev.move rfl) rfl ?_
      refine OpsE.ev (Ev.lenSl (d := 22) rfl rfl (by kernel_rfl)) rfl ?_
      refine OpsE.ev (Ev.lss (r := true) rfl rfl (decide_eq_true (by omega))) rfl ?_
      refine OpsE.ev (Ev.move rfl) rfl ?_
      first | (refine OpsE.yes rfl rfl ?_; refine OpsE.ev (Ev.move rfl) rfl ?_) | refine OpsE.no rfl rfl rfl ?_ | refine OpsE.off rfl rfl rfl ?_
      first | (refine OpsE.yes rfl rfl ?_; refine OpsE.ev (Ev.lss (r := false) rfl rfl (decide_eq_false (by omega))) rfl ?_) | refine OpsE.no rfl rfl rfl ?_ | refine OpsE.off rfl rfl rfl ?_
      refine OpsE.ev ((by first | exact Ev.pickT rfl rfl | exact Ev.pickF rfl rfl)) rfl ?_
      refine OpsE.ev (Ev.move rfl) rfl ?_
      first | (refine OpsE.yes rfl rfl ?_; refine OpsE.ev (Ev.move rfl) rfl ?_) | refine OpsE.no rfl rfl rfl ?_ | refine OpsE.off rfl rfl rfl ?_
      first | (refine OpsE.yes rfl rfl ?_; refine OpsE.ev (Ev.lenSl (d := 5) rfl rfl (by kernel_rfl)) rfl ?_) | refine OpsE.no rfl rfl rfl ?_ | refine OpsE.off rfl rfl rfl ?_
      first | (refine OpsE.yes rfl rfl ?_; refine OpsE.ev (Ev.lss rfl rfl) rfl ?_) | refine OpsE.no rfl rfl rfl ?_ | refine OpsE.off rfl rfl rfl ?_
      refine OpsE.ev ((by first | exact Ev.pickT rfl rfl | exact Ev.pickF rfl rfl)) rfl ?_
      refine OpsE.nil ?_
      refine RunsE.no rfl ?_
      refine RunsE.exit rfl ?_
      exact next _ _ _ ⟨xs, A, B, hA, hs, hx, H⟩ ⟨rfl, rfl, rfl, trivial⟩
    by_cases h3 : 1500 ≤ xs.length
    ·
      repeat (first | refine RunsE.seq ?_ | refine RunsE.skip ?_ | refine RunsE.block ?_ | refine RunsE.inBlock ?_ | refine RunsE.yes rfl ?_ | refine RunsE.no rfl ?_ | refine RunsE.exit rfl ?_)
      refine RunsE.region ?_
      refine OpsE.ev (Ev.move rfl) rfl ?_
      refine OpsE.ev (Ev.move rfl) rfl ?_
      refine OpsE.ev (Ev.lenSl (d := 22) rfl rfl (by kernel_rfl)) rfl ?_
      refine OpsE.ev (Ev.lss (r := true) rfl rfl (decide_eq_true (by omega))) rfl ?_
      refine OpsE.ev (Ev.move rfl) rfl ?_
      first | (refine OpsE.yes rfl rfl ?_; refine OpsE.ev (Ev.move rfl) rfl ?_) | refine OpsE.no rfl rfl rfl ?_ | refine OpsE.off rfl rfl rfl ?_
      first | (refine OpsE.yes rfl rfl ?_; refine OpsE.ev (Ev.lss (r := true) rfl rfl (decide_eq_true (by omega))) rfl ?_) | refine OpsE.no rfl rfl rfl ?_ | refine OpsE.off rfl rfl rfl ?_
      refine OpsE.ev ((by first | exact Ev.pickT rfl rfl | exact Ev.pickF rfl rfl)) rfl ?_
      refine OpsE.ev (Ev.move rfl) rfl ?_
      first | (refine OpsE.yes rfl rfl ?_; refine OpsE.ev (Ev.move rfl) rfl ?_) | refine OpsE.no rfl rfl rfl ?_ | refine OpsE.off rfl rfl rfl ?_
      first | (refine OpsE.yes rfl rfl ?_; refine OpsE.ev (Ev.lenSl (d := 5) rfl rfl (by kernel_rfl)) rfl ?_) | refine OpsE.no rfl rfl rfl ?_ | refine OpsE.off rfl rfl rfl ?_
      first | (refine OpsE.yes rfl rfl ?_; refine OpsE.ev (Ev.lss (r := false) rfl rfl (decide_eq_false (by omega))) rfl ?_) | refine OpsE.no rfl rfl rfl ?_ | refine OpsE.off rfl rfl rfl ?_
      refine OpsE.ev ((by first | exact Ev.pickT rfl rfl | exact Ev.pickF rfl rfl)) rfl ?_
      refine OpsE.nil ?_
      refine RunsE.no rfl ?_
      refine RunsE.exit rfl ?_
      exact next _ _ _ ⟨xs, A, B, hA, hs, hx, H⟩ ⟨rfl, rfl, rfl, trivial⟩
    clear next
    obtain ⟨li, hli⟩ : ∃ li, ls[i]? = some li := ⟨ls[i]'(by omega), by simp [show i < ls.length by omega]⟩
    obtain ⟨bl, ol, vi, rfl, hrd, hin⟩ := hvl.at hli
    obtain ⟨ai, ci, rfl, hci⟩ := hin.len
    repeat (first | refine RunsE.seq ?_ | refine RunsE.skip ?_ | refine RunsE.block ?_ | refine RunsE.inBlock ?_ | refine RunsE.yes rfl ?_ | refine RunsE.no rfl ?_ | refine RunsE.exit rfl ?_)
    refine RunsE.region ?_
    refine OpsE.ev (Ev.move rfl) rfl ?_
    refine OpsE.ev (Ev.move rfl) rfl ?_
    refine OpsE.ev (Ev.lenSl (d := 22) rfl rfl (by kernel_rfl)) rfl ?_
    refine OpsE.ev (Ev.lss (r := true) rfl rfl (decide_eq_true (by omega))) rfl ?_
    refine OpsE.ev (Ev.move rfl) rfl ?_
    first | (refine OpsE.yes rfl rfl ?_; refine OpsE.ev (Ev.move rfl) rfl ?_) | refine OpsE.no rfl rfl rfl ?_ | refine OpsE.off rfl rfl rfl ?_
    first | (refine OpsE.yes rfl rfl ?_; refine OpsE.ev (Ev.lss (r := true) rfl rfl (decide_eq_true (by omega))) rfl ?_) | refine OpsE.no rfl rfl rfl ?_ | refine OpsE.off rfl rfl rfl ?_
    refine OpsE.ev ((by first | exact Ev.pickT rfl rfl | exact Ev.pickF rfl rfl)) rfl ?_
    refine OpsE.ev (Ev.move rfl) rfl ?_
    first | (refine OpsE.yes rfl rfl ?_; refine OpsE.ev (Ev.move rfl) rfl ?_) | refine OpsE.no rfl rfl rfl ?_ | refine OpsE.off rfl rfl rfl ?_
    first | (refine OpsE.yes rfl rfl ?_; refine OpsE.ev (Ev.lenSl (d := 5) rfl rfl (by kernel_rfl)) rfl ?_) | refine OpsE.no rfl rfl rfl ?_ | refine OpsE.off rfl rfl rfl ?_
    first | (refine OpsE.yes rfl rfl ?_; refine OpsE.ev (Ev.lss (r := true) rfl rfl (decide_eq_true (by omega))) rfl ?_) | refine OpsE.no rfl rfl rfl ?_ | refine OpsE.off rfl rfl rfl ?_
    refine OpsE.ev ((by first | exact Ev.pickT rfl rfl | exact Ev.pickF rfl rfl)) rfl ?_
    refine OpsE.nil ?_
    repeat (first | refine RunsE.seq ?_ | refine RunsE.skip ?_ | refine RunsE.block ?_ | refine RunsE.inBlock ?_ | refine RunsE.yes rfl ?_ | refine RunsE.no rfl ?_ | refine RunsE.exit rfl ?_)
    repeat (first | refine RunsE.seq ?_ | refine RunsE.skip ?_ | refine RunsE.block ?_ | refine RunsE.inBlock ?_ | refine RunsE.yes rfl ?_ | refine RunsE.no rfl ?_ | refine RunsE.exit rfl ?_)
    refine RunsE.region ?_
    refine OpsE.ev (Ev.move rfl) rfl ?_
    refine OpsE.ev (Ev.move rfl) rfl ?_
    refine OpsE.ev (Ev.iaSl (n := 22) (sz := 1) (m := i) (o := ol + i) rfl rfl rfl (by kernel_rfl) (by omega) (by omega)) rfl ?_
    refine OpsE.ev (Ev.load H rfl (by kernel_rfl) hrd.right.right) rfl ?_
    refine OpsE.ev (Ev.lenSl (d := 5) rfl rfl (by kernel_rfl)) rfl ?_
    refine OpsE.ev (Ev.gtr (r := decide (1000 < li.length)) rfl rfl (by apply decide_eq_decide.2; omega)) rfl ?_
    refine OpsE.nil ?_
    by_cases h4 : 1000 < li.length
    · refine RunsE.yes (by rw [decide_eq_true h4]; rfl) ?_
      refine RunsE.exit rfl ?_
      repeat (first | refine RunsE.seq ?_ | refine RunsE.skip ?_ | refine RunsE.block ?_ | refine RunsE.inBlock ?_ | refine RunsE.yes rfl ?_ | refine RunsE.no rfl ?_ | refine RunsE.exit rfl ?_)
      refine RunsE.region ?_
      refine OpsE.ev (Ev.move rfl) rfl ?_
      refine OpsE.ev (Ev.add rfl rfl) rfl ?_
      refine OpsE.ev (Ev.assign rfl) rfl ?_
      refine OpsE.nil ?_
      repeat (first | refine RunsE.seq ?_ | refine RunsE.skip ?_ | refine RunsE.block ?_ | refine RunsE.inBlock ?_ | refine RunsE.yes rfl ?_ | refine RunsE.no rfl ?_ | refine RunsE.exit rfl ?_)
      exact nextL (i + 1, _, xs) _ _ (by simp only; omega) ⟨by simp only; omega, A, B, hA, hs, hx, H⟩ ⟨rfl, rfl, rfl, rfl, rfl, trivial⟩
    refine RunsE.no (by rw [decide_eq_false h4]; rfl) ?_
    refine RunsE.skip ?_
    have hkl := keyed_app_len key xs (by omega) (by omega)
    have hkl2 := keyed_app_len key (xs ++ li) (by omega) (by rw [List.length_append]; omega)
    rw [List.length_append] at hkl2
    replace H := H.swapL
    repeat (first | refine RunsE.seq ?_ | refine RunsE.skip ?_ | refine RunsE.block ?_ | refine RunsE.inBlock ?_ | refine RunsE.yes rfl ?_ | refine RunsE.no rfl ?_ | refine RunsE.exit rfl ?_)
    refine RunsE.region ?_
    refine OpsE.ev (Ev.move rfl) rfl ?_
    refine OpsE.ev (Ev.move rfl) rfl ?_
    refine OpsE.ev (Ev.move rfl) rfl ?_
    refine OpsE.ev (Ev.iaSl (n := 22) (sz := 1) (m := i) (o := ol + i) rfl rfl rfl (by kernel_rfl) (by omega) (by omega)) rfl ?_
    refine OpsE.ev (Ev.load H rfl (by kernel_rfl) hrd.right.right) rfl ?_
    refine OpsE.ex (Ex.call rfl Tryd.call15 (write_spec (h0 key.length) (keyed key ++ xs) li xs.length b _ (h0_length _) (by rw [List.length_append]; omega) (by omega) w _ _ hA hin.right hG.right H)) rfl ?_; (try clear H); rintro _ w ⟨rfl, A, hA, H⟩
    refine OpsE.nil ?_
    replace H := H.swapL
    repeat (first | refine RunsE.seq ?_ | refine RunsE.skip ?_ | refine RunsE.block ?_ | refine RunsE.inBlock ?_ | refine RunsE.yes rfl ?_ | refine RunsE.no rfl ?_ | refine RunsE.exit rfl ?_)
    refine RunsE.region ?_
    refine OpsE.ev (Ev.move rfl) rfl ?_
    refine OpsE.ev (Ev.move rfl) rfl ?_
    refine OpsE.ev (Ev.move rfl) rfl ?_
    refine OpsE.ev (Ev.iaSl (n := 22) (sz := 1) (m := i) (o := ol + i) rfl rfl rfl (by kernel_rfl) (by omega) (by omega)) rfl ?_
    refine OpsE.ev (Ev.load H rfl (by kernel_rfl) hrd.right.right) rfl ?_
    refine OpsE.ex (Ex.append (g := gB) (by_ := 1) (zv := .int .u8 0) (ys := li) H rfl rfl hs (Inp.src H hin.right.right) (fun _ => rfl) (by simp [Value.oneCell']) (by kernel_rfl) (by kernel_rfl) (by kernel_rfl) (by kernel_rfl) rfl (by omega) (by omega)) rfl ?_; (try clear H); rintro v' w ⟨B, hs, H⟩
    refine OpsE.ev (Ev.assign rfl) rfl ?_
    refine OpsE.nil ?_
    obtain ⟨ys, hys⟩ : ∃ ys, ys = xs ++ li := ⟨_, rfl⟩
    have hyl : ys.length = xs.length + li.length := by rw [hys, List.length_append]
    rw [List.append_assoc, ← hys, ← hyl] at hA
    rw [← hys] at hs
    repeat (first | refine RunsE.seq ?_ | refine RunsE.skip ?_ | refine RunsE.block ?_ | refine RunsE.inBlock ?_ | refine RunsE.yes rfl ?_ | refine RunsE.no rfl ?_ | refine RunsE.exit rfl ?_)
    refine RunsE.region ?_
    refine OpsE.ev (Ev.move rfl) rfl ?_
    refine OpsE.ev (Ev.rem (c := ((i % 2 : Nat) : Int)) rfl rfl (by omega) (qrem i 2)) rfl ?_
    refine OpsE.ev (Ev.eql (r := decide (i % 2 = 1)) rfl rfl (by rw [Bool.eq_iff_iff, beq_iff_eq, decide_eq_true_iff]; omega)) rfl ?_
    refine OpsE.nil ?_
    refine RunsE.join (fun _ : Unit => [(0, .slice ak key.length ck), (1, .slice (some ⟨bl, ol, none⟩) ls.length cl), (6, .pointer (some ⟨b, 0, none⟩)), (8, v'), (9, .int .i64 (i : Int))])
      (fun _ w => SL w (B ++ (A ++ F))) (fun next => ?_) ?_
    · by_cases h5 : i % 2 = 1
      · refine RunsE.yes (by rw [decide_eq_true h5]; rfl) ?_
        obtain ⟨zs, hzs⟩ : ∃ zs, zs = sumOf key ys := ⟨_, rfl⟩
        have hzl : zs.length = 32 := by rw [hzs]; simp
        have hzd : hashOf (digest (h0 key.length) (keyed key ++ ys)) = zs := hzs.symm
        repeat (first | refine RunsE.seq ?_ | refine RunsE.skip ?_ | refine RunsE.block ?_ | refine RunsE.inBlock ?_ | refine RunsE.yes rfl ?_ | refine RunsE.no rfl ?_ | refine RunsE.exit rfl ?_)
        refine RunsE.region ?_
        refine OpsE.ev (Ev.move rfl) rfl ?_
        refine OpsE.ev (Ev.move rfl) rfl ?_
        refine OpsE.ex (Ex.call rfl Tryd.call13 (rkeyed_spec key ys _ _ (by omega) (by omega) w _ hvk.right.right hs.inp H)) rfl ?_; (try clear H); rw [← hzs]; rintro _ w ⟨rfl, H⟩
        refine OpsE.ev (Ev.move rfl) rfl ?_
        refine OpsE.ev (Ev.extract rfl rfl) rfl ?_
        refine OpsE.ev (Ev.extract rfl rfl) rfl ?_
        refine OpsE.ex (Ex.alloc (zv := .agg (List.replicate 32 (.int .u8 0)).toArray) H (by kernel_rfl)) rfl ?_; (try clear H); rintro _ w ⟨b10, rfl, H⟩; simp only [Value.cells] at H
        refine OpsE.exn (Ex.storeBlk (n := 32) (vs := zs.map BV) H rfl rfl (by kernel_rfl) (by simp [hzl]) bvOne u0 (by simp [hzl]) (Thaw.zero _ _)) ?_; (try clear H); intro _ w H
        refine OpsE.ev (Ev.assign rfl) rfl ?_
        refine OpsE.nil ?_
        replace H : SL w (A ++ ((b10, .cells (zs.map BV).toArray 25 (0, 0)) :: (B ++ F))) := SL.swapL (A := (b10, .cells (zs.map BV).toArray 25 (0, 0)) :: B) (B := A) H
        repeat (first | refine RunsE.seq ?_ | refine RunsE.skip ?_ | refine RunsE.block ?_ | refine RunsE.inBlock ?_ | refine RunsE.yes rfl ?_ | refine RunsE.no rfl ?_ | refine RunsE.exit rfl ?_)
        refine RunsE.drawS H [9] (by kernel_rfl) ?_; (try clear H); intro w H
        refine OpsD.take 0 rfl (by kernel_rfl) H (fun w H => Ev.move rfl) rfl ?_
        refine OpsD.take 2 rfl (by kernel_rfl) H (fun w H => Ev.loadBlk (n := 32) (vs := zs.map BV) H rfl (by kernel_rfl) (by simp [hzl]) (List.mem_append_right _ (.head _))) rfl ?_
        refine OpsD.one 1 (by kernel_rfl) (StepD.ex rfl (Ex.call rfl Tryd.call16 (ssum_spec (h0 key.length) (keyed key ++ ys) _ b (h0_length _) (by rw [List.length_append]; omega) w _ _ hA hG.right.tail H)) rfl ?_); (try clear H); rw [hzd]; rintro _ w ⟨rfl, H⟩; refine ⟨(by first | exact H | exact H.drop | exact H.drop.drop | exact H.dropL), ?_⟩
        refine OpsD.take 3 rfl (by kernel_rfl) H (fun w H => Ev.bytesNeF (n := 32) rfl rfl (by kernel_rfl) hzl) rfl ?_
        refine OpsD.take 4 rfl (by kernel_rfl) H (fun w H => Ev.move rfl) rfl ?_
        first | refine OpsD.takeYes 5 rfl (by kernel_rfl) rfl rfl H (fun w H => Ev.move rfl) rfl ?_ | refine OpsD.takeNo 5 rfl (by kernel_rfl) rfl rfl H rfl ?_ | refine OpsD.takeOff 5 rfl (by kernel_rfl) rfl rfl H rfl ?_
        first | refine OpsD.takeYes 7 rfl (by kernel_rfl) rfl rfl H (fun w H => Ev.loadBlk (n := 32) (vs := zs.map BV) H rfl (by kernel_rfl) (by simp [hzl]) (List.mem_append_right _ (.head _))) rfl ?_ | refine OpsD.takeNo 7 rfl (by kernel_rfl) rfl rfl H rfl ?_ | refine OpsD.takeOff 7 rfl (by kernel_rfl) rfl rfl H rfl ?_
        first | (refine OpsD.one 6 (by kernel_rfl) (StepD.exYes rfl rfl rfl (Ex.call rfl Tryd.call16 (ssum_spec (h0 key.length) (keyed key ++ ys) _ b (h0_length _) (by rw [List.length_append]; omega) w _ _ hA hG.right.tail H)) rfl ?_); (try clear H); rw [hzd]; rintro _ w ⟨rfl, H⟩; refine ⟨(by first | exact H | exact H.drop | exact H.drop.drop | exact H.dropL), ?_⟩) | refine OpsD.takeNo 6 rfl (by kernel_rfl) rfl rfl H rfl ?_ | refine OpsD.takeOff 6 rfl (by kernel_rfl) rfl rfl H rfl ?_
        first | refine OpsD.takeYes 8 rfl (by kernel_rfl) rfl rfl H (fun w H => Ev.bytesNeF (n := 32) rfl rfl (by kernel_rfl) hzl) rfl ?_ | refine OpsD.takeNo 8 rfl (by kernel_rfl) rfl rfl H rfl ?_ | refine OpsD.takeOff 8 rfl (by kernel_rfl) rfl rfl H rfl ?_
        refine OpsD.one 9 (by kernel_rfl) (StepD.exT rfl rfl (Ev.ex ((by first | exact Ev.pickT rfl rfl | exact Ev.pickF rfl rfl))) rfl ?_); rintro _ _ ⟨rfl, rfl⟩
        refine OpsD.done (by kernel_rfl) ?_
        refine RunsE.no rfl ?_
        refine RunsE.skip ?_
        replace H : SL w ((b10, .cells (zs.map BV).toArray 25 (0, 0)) :: (B ++ (A ++ F))) := SL.swapL (A := A) (B := (b10, .cells (zs.map BV).toArray 25 (0, 0)) :: B) H
        exact next () _ _ H.drop ⟨rfl, rfl, rfl, rfl, rfl, trivial⟩
      · refine RunsE.no (by rw [decide_eq_false h5]; rfl) ?_
        refine RunsE.skip ?_
        exact next () _ _ H ⟨rfl, rfl, rfl, rfl, rfl, trivial⟩
    clear H
    rintro _ w H
    repeat (first | refine RunsE.seq ?_ | refine RunsE.skip ?_ | refine RunsE.block ?_ | refine RunsE.inBlock ?_ | refine RunsE.yes rfl ?_ | refine RunsE.no rfl ?_ | refine RunsE.exit rfl ?_)
    refine RunsE.region ?_
    refine OpsE.ev (Ev.move rfl) rfl ?_
    refine OpsE.ev (Ev.add rfl rfl) rfl ?_
    refine OpsE.ev (Ev.assign rfl) rfl ?_
    refine OpsE.nil ?_
    repeat (first | refine RunsE.seq ?_ | refine RunsE.skip ?_ | refine RunsE.block ?_ | refine RunsE.inBlock ?_ | refine RunsE.yes rfl ?_ | refine RunsE.no rfl ?_ | refine RunsE.exit rfl ?_)
    exact nextL (i + 1, v', ys) _ _ (by simp only; omega) ⟨by simp only; omega, A, B, hA, hs, by simp only; omega, H⟩ ⟨rfl, rfl, rfl, rfl, rfl, trivial⟩
  clear H hA A
  rintro v w ⟨xs, A, B, hA, hs, hx, H⟩
  obtain ⟨av, cv, rfl⟩ := hs.len
  have hkl := keyed_app_len key xs (by omega) (by omega)
  obtain ⟨zs, hzs⟩ : ∃ zs, zs = sumOf key xs := ⟨_, rfl⟩
  have hzl : zs.length = 32 := by rw [hzs]; simp
  have hzd : hashOf (digest (h0 key.length) (keyed key ++ xs)) = zs := hzs.symm
  repeat (first | refine RunsE.seq ?_ | refine RunsE.skip ?_ | refine RunsE.block ?_ | refine RunsE.inBlock ?_ | refine RunsE.yes rfl ?_ | refine RunsE.no rfl ?_ | refine RunsE.exit rfl ?_)
  refine RunsE.region ?_
  refine OpsE.ev (Ev.move rfl) rfl ?_
  refine OpsE.ev (Ev.move rfl) rfl ?_
  refine OpsE.ex (Ex.call rfl Tryd.call13 (rkeyed_spec key xs _ _ (by omega) (by omega) w _ hvk.right.right hs.inp H)) rfl ?_; (try clear H); rw [← hzs]; rintro _ w ⟨rfl, H⟩
  refine OpsE.ev (Ev.move rfl) rfl ?_
  refine OpsE.ev (Ev.extract rfl rfl) rfl ?_
  refine OpsE.ev (Ev.extract rfl rfl) rfl ?_
  refine OpsE.ex (Ex.alloc (zv := .agg (List.replicate 32 (.int .u8 0)).toArray) H (by kernel_rfl)) rfl ?_; (try clear H); rintro _ w ⟨b12, rfl, H⟩; simp only [Value.cells] at H
  refine OpsE.exn (Ex.storeBlk (n := 32) (vs := zs.map BV) H rfl rfl (by kernel_rfl) (by simp [hzl]) bvOne u0 (by simp [hzl]) (Thaw.zero _ _)) ?_; (try clear H); intro _ w H
  refine OpsE.ev (Ev.assign rfl) rfl ?_
  refine OpsE.nil ?_
  repeat (first | refine RunsE.seq ?_ | refine RunsE.skip ?_ | refine RunsE.block ?_ | refine RunsE.inBlock ?_ | refine RunsE.yes rfl ?_ | refine RunsE.no rfl ?_ | refine RunsE.exit rfl ?_)
  refine RunsE.region ?_
  refine OpsE.ev (Ev.move rfl) rfl ?_
  refine OpsE.ev (Ev.move rfl) rfl ?_
  refine OpsE.ex (Ex.call rfl Tryd.call12 (keyed_spec key xs _ _ (by omega) (by omega) w _ hvk.right.right.tail hs.inp.tail hG.right.right.tail H)) rfl ?_; (try clear H); rw [← hzs]; rintro _ w ⟨rfl, H⟩
  refine OpsE.ev (Ev.move rfl) rfl ?_
  refine OpsE.ev (Ev.extract rfl rfl) rfl ?_
  refine OpsE.ev (Ev.extract rfl rfl) rfl ?_
  refine OpsE.ex (Ex.alloc (zv := .agg (List.replicate 32 (.int .u8 0)).toArray) H (by kernel_rfl)) rfl ?_; (try clear H); rintro _ w ⟨b14, rfl, H⟩; simp only [Value.cells] at H
  refine OpsE.exn (Ex.storeBlk (n := 32) (vs := zs.map BV) H rfl rfl (by kernel_rfl) (by simp [hzl]) bvOne u0 (by simp [hzl]) (Thaw.zero _ _)) ?_; (try clear H); intro _ w H
  refine OpsE.ev (Ev.assign rfl) rfl ?_
  refine OpsE.nil ?_
  obtain ⟨D, hD⟩ : ∃ D, D = [(b14, Obj.cells (zs.map BV).toArray 25 (0, 0)), (b12, Obj.cells (zs.map BV).toArray 25 (0, 0))] := ⟨_, rfl⟩
  have m14 : (b14, Obj.cells (zs.map BV).toArray 25 (0, 0)) ∈ A ++ ((D ++ B) ++ F) := by simp [hD]
  have m12 : (b12, Obj.cells (zs.map BV).toArray 25 (0, 0)) ∈ A ++ ((D ++ B) ++ F) := by simp [hD]
  replace H : SL w ((D ++ B) ++ (A ++ F)) := by rw [hD]; exact H
  replace H := SL.swapL (A := D ++ B) (B := A) H
  have hG2 : OrderIn ((D ++ B) ++ F) := hG.right
  repeat (first | refine RunsE.seq ?_ | refine RunsE.skip ?_ | refine RunsE.block ?_ | refine RunsE.inBlock ?_ | refine RunsE.yes rfl ?_ | refine RunsE.no rfl ?_ | refine RunsE.exit rfl ?_)
  refine RunsE.drawS H [23] (by kernel_rfl) ?_; (try clear H); intro w H
  refine OpsD.take 0 rfl (by kernel_rfl) H (fun w H => Ev.move rfl) rfl ?_
  refine OpsD.take 2 rfl (by kernel_rfl) H (fun w H => Ev.loadBlk (n := 32) (vs := zs.map BV) H rfl (by kernel_rfl) (by simp [hzl]) m12) rfl ?_
  refine OpsD.one 1 (by kernel_rfl) (StepD.ex rfl (Ex.call rfl Tryd.call16 (ssum_spec (h0 key.length) (keyed key ++ xs) _ b (h0_length _) (by rw [List.length_append]; omega) w _ _ hA hG2 H)) rfl ?_); (try clear H); rw [hzd]; rintro _ w ⟨rfl, H⟩; refine ⟨(by first | exact H | exact H.drop | exact H.drop.drop | exact H.dropL), ?_⟩
  refine OpsD.take 3 rfl (by kernel_rfl) H (fun w H => Ev.bytesEqT (n := 32) rfl rfl (by kernel_rfl) hzl) rfl ?_
  refine OpsD.take 4 rfl (by kernel_rfl) H (fun w H => Ev.move rfl) rfl ?_
  first | refine OpsD.takeYes 5 rfl (by kernel_rfl) rfl rfl H (fun w H => Ev.move rfl) rfl ?_ | refine OpsD.takeNo 5 rfl (by kernel_rfl) rfl rfl H rfl ?_ | refine OpsD.takeOff 5 rfl (by kernel_rfl) rfl rfl H rfl ?_
  first | refine OpsD.takeYes 6 rfl (by kernel_rfl) rfl rfl H (fun w H => Ev.ifNilEqT rfl Tryd.underlying31) rfl ?_ | refine OpsD.takeNo 6 rfl (by kernel_rfl) rfl rfl H rfl ?_ | refine OpsD.takeOff 6 rfl (by kernel_rfl) rfl rfl H rfl ?_
  refine OpsD.take 7 rfl (by kernel_rfl) H (fun w H => (by first | exact Ev.pickT rfl rfl | exact Ev.pickF rfl rfl)) rfl ?_
  refine OpsD.take 8 rfl (by kernel_rfl) H (fun w H => Ev.move rfl) rfl ?_
  first | refine OpsD.takeYes 9 rfl (by kernel_rfl) rfl rfl H (fun w H => Ev.loadBlk (n := 32) (vs := zs.map BV) H rfl (by kernel_rfl) (by simp [hzl]) m14) rfl ?_ | refine OpsD.takeNo 9 rfl (by kernel_rfl) rfl rfl H rfl ?_ | refine OpsD.takeOff 9 rfl (by kernel_rfl) rfl rfl H rfl ?_
  first | refine OpsD.takeYes 10 rfl (by kernel_rfl) rfl rfl H (fun w H => Ev.loadBlk (n := 32) (vs := zs.map BV) H rfl (by kernel_rfl) (by simp [hzl]) m12) rfl ?_ | refine OpsD.takeNo 10 rfl (by kernel_rfl) rfl rfl H rfl ?_ | refine OpsD.takeOff 10 rfl (by kernel_rfl) rfl rfl H rfl ?_
  first | refine OpsD.takeYes 11 rfl (by kernel_rfl) rfl rfl H (fun w H => Ev.bytesEqT (n := 32) rfl rfl (by kernel_rfl) hzl) rfl ?_ | refine OpsD.takeNo 11 rfl (by kernel_rfl) rfl rfl H rfl ?_ | refine OpsD.takeOff 11 rfl (by kernel_rfl) rfl rfl H rfl ?_
  refine OpsD.take 12 rfl (by kernel_rfl) H (fun w H => (by first | exact Ev.pickT rfl rfl | exact Ev.pickF rfl rfl)) rfl ?_
  refine OpsD.take 13 rfl (by kernel_rfl) H (fun w H => Ev.move rfl) rfl ?_
  first | refine OpsD.takeYes 14 rfl (by kernel_rfl) rfl rfl H (fun w H => Ev.move rfl) rfl ?_ | refine OpsD.takeNo 14 rfl (by kernel_rfl) rfl rfl H rfl ?_ | refine OpsD.takeOff 14 rfl (by kernel_rfl) rfl rfl H rfl ?_
  first | refine OpsD.takeYes 16 rfl (by kernel_rfl) rfl rfl H (fun w H => Ev.move rfl) rfl ?_ | refine OpsD.takeNo 16 rfl (by kernel_rfl) rfl rfl H rfl ?_ | refine OpsD.takeOff 16 rfl (by kernel_rfl) rfl rfl H rfl ?_
  first | refine OpsD.takeYes 17 rfl (by kernel_rfl) rfl rfl H (fun w H => Ev.lenSl (d := 5) rfl rfl (by kernel_rfl)) rfl ?_ | refine OpsD.takeNo 17 rfl (by kernel_rfl) rfl rfl H rfl ?_ | refine OpsD.takeOff 17 rfl (by kernel_rfl) rfl rfl H rfl ?_
  first | (refine OpsD.one 15 (by kernel_rfl) (StepD.exYes rfl rfl rfl (Ex.call rfl Tryd.call17 (len_spec (h0 key.length) (keyed key ++ xs) _ b (h0_length _) w _ _ hA H)) rfl ?_); (try clear H); rintro _ w ⟨rfl, H⟩; refine ⟨(by first | exact H | exact H.drop | exact H.drop.drop | exact H.dropL), ?_⟩) | refine OpsD.takeNo 15 rfl (by kernel_rfl) rfl rfl H rfl ?_ | refine OpsD.takeOff 15 rfl (by kernel_rfl) rfl rfl H rfl ?_
  first | refine OpsD.takeYes 18 rfl (by kernel_rfl) rfl rfl H (fun w H => Ev.eql (r := true) rfl rfl (beq_iff_eq.2 rfl)) rfl ?_ | refine OpsD.takeNo 18 rfl (by kernel_rfl) rfl rfl H rfl ?_ | refine OpsD.takeOff 18 rfl (by kernel_rfl) rfl rfl H rfl ?_
  refine OpsD.take 19 rfl (by kernel_rfl) H (fun w H => (by first | exact Ev.pickT rfl rfl | exact Ev.pickF rfl rfl)) rfl ?_
  refine OpsD.take 20 rfl (by kernel_rfl) H (fun w H => Ev.move rfl) rfl ?_
  first | (refine OpsD.one 21 (by kernel_rfl) (StepD.exYes rfl rfl rfl (Ex.call rfl Tryd.call7 (sure_spec w _ hG2.right H)) rfl ?_); (try clear H); rintro _ w ⟨rfl, H⟩; refine ⟨(by first | exact H | exact H.drop | exact H.drop.drop | exact H.dropL), ?_⟩) | refine OpsD.takeNo 21 rfl (by kernel_rfl) rfl rfl H rfl ?_ | refine OpsD.takeOff 21 rfl (by kernel_rfl) rfl rfl H rfl ?_
  refine OpsD.take 22 rfl (by kernel_rfl) H (fun w H => (by first | exact Ev.pickT rfl rfl | exact Ev.pickF rfl rfl)) rfl ?_
  refine OpsD.one 23 (by kernel_rfl) (StepD.exT rfl rfl (Ev.ex (Ev.assign rfl)) rfl ?_); rintro _ _ ⟨rfl, rfl⟩
  refine OpsD.done (by kernel_rfl) ?_
  repeat (first | refine RunsE.seq ?_ | refine RunsE.skip ?_ | refine RunsE.block ?_ | refine RunsE.inBlock ?_ | refine RunsE.yes rfl ?_ | refine RunsE.no rfl ?_ | refine RunsE.exit rfl ?_)
  exact RunsE.ret1 Tryd.func6 rfl rfl ⟨rfl, H.dropL.dropL⟩

end Go.Proofs.YtfohpgbeongjfaaDoor
