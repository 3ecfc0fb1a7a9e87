/-
  The statements' 'laid' and 'sure'.
-/
import Derived.Test.YtniihnncgblocaaDoorOathS
namespace Go.Proofs.YtniihnncgblocaaDoor.V

def h7 : Hash := ⟨7 :: List.replicate 31 0, rfl⟩
def h0 : Hash := ⟨List.replicate 32 0, rfl⟩

theorem one_rd {X : List (Nat × Obj)} {b : Nat} {T : TypeId} {fr : Nat × Nat} (hm : (b, Obj.cells #[.int .i64 1] T fr) ∈ X) : RdS X 1 (.slice (some ⟨b, 0, none⟩) 1 1) [1].length ([1].flatMap gW) :=
  .blk b 0 1 1 _ rfl (by decide) fun i v hi => by
    rw [Nat.zero_add]
    refine Rd.mk hm ?_
    rw [List.flatMap_singleton] at hi
    exact (List.getElem?_toArray (xs := [Value.int .i64 1]) (i := i)).trans hi

section
variable {P : Program} {w : World} {e : Env} {ty t : TypeId} {x y : Operand}
/-- An array's literal of bytes. -/
theorem Ev.buildArrP {n : Nat} {l : List (Nat × Operand)} {ps : List (Nat × Value)} {zv : Value} {cs : Array Value} (hl : e.partsI l = some ps) (ht : arrT P t = some (n, 1)) (hz : zeroT P t = some zv) (hf : fillP (fun i => some (i * 1, 1)) zv.cells ps = some cs) :
    Ev P w e (.build t l.toArray) ty (.agg cs) := .of fun ρ hρ _ _ _ _ => by
  have h1 := Env.partsI_map hρ hl
  have hfill := fill_of_fillP _ _ _ _ hf
  unfold arrT at ht
  unfold zeroT at hz
  cases hi : P.info? t with
  | none => rw [hi] at hz; cases hz
  | some inf =>
    rw [hi] at hz
    simp only [Option.bind_some] at hz
    split at ht
    · rename_i n' el hu
      cases hi2 : P.info? el with
      | none => rw [hi2] at ht; cases ht
      | some inf2 =>
        rw [hi2] at ht
        simp at ht
        obtain ⟨rfl, hs⟩ := ht
        simp only [execOp, List.map_toArray, h1, Instr.build, zeroValue, typeInfo, Sem.run_bind, run_program, Result.andThen, hi, Sem.run_pure, hz, run_underlying hu, sizeOf, hi2, hs]
        rw [hfill]
        rfl
    · cases ht
end

end Go.Proofs.YtniihnncgblocaaDoor.V
namespace Go.Proofs.YtniihnncgblocaaDoor
open Go.Proofs.YtniihnncgblocaaDoor.V

theorem num_en [Strm] (e : Nat) (w : World) (F : List (Nat × Obj)) (hE : ErrIn F) (H : SL w F) : Does Tryd.prog 18 #[EN e] w fun r w' => r = .int .i64 (e : Int) ∧ SL w' F := by
  cases e with
  | zero => exact num_nil w F H
  | succ n => exact num_spec _ w F hE H

/-- The book and the document's list. -/
structure OPair [Strm] (F : List (Nat × Obj)) (b : Nat) (L : List Sg) (v : Value) (w : World) : Prop where
  of :: ex : ∃ A D, BookH b L A ∧ RefL D L v ∧ SL w (A ++ (D ++ F))

set_option maxHeartbeats 2000000 in
theorem laid_spec [Strm] (l : List SgI) (vl : Value) (w : World) (F : List (Nat × Obj)) (hvl : ElsA 33 (SgAt F) vl l) (hE : ErrIn F) (H : SL w F) :
    Does Tryd.prog 7 #[vl] w fun r w' => ∃ b v, r = .tuple #[.pointer (some ⟨b, 0, none⟩), v, .bool true] ∧ OPair F b (laidL l 60) v w' := by
  obtain ⟨al, cl, rfl, hcl⟩ := hvl.len
  refine Does.intro (args := [_]) (e := [(0, _)]) Tryd.func7 rfl Tryd.ntmps7 rfl rfl ?_
  repeat (first | refine RunsE.seq ?_ | refine RunsE.skip ?_ | refine RunsE.block ?_ | refine RunsE.inBlock ?_ | refine RunsE.yes rfl ?_ | refine RunsE.no rfl ?_ | refine RunsE.exit rfl ?_)
  repeat (first | refine RunsE.seq ?_ | refine RunsE.skip ?_ | refine RunsE.block ?_ | refine RunsE.inBlock ?_ | refine RunsE.yes rfl ?_ | refine RunsE.no rfl ?_ | refine RunsE.exit rfl ?_)
  refine RunsE.region ?_
  refine OpsE.ev (Ev.assign rfl) rfl ?_
  refine OpsE.ev (Ev.assign rfl) rfl ?_
  refine OpsE.ev (Ev.assign rfl) rfl ?_
  refine OpsE.nil ?_
  repeat (first | refine RunsE.seq ?_ | refine RunsE.skip ?_ | refine RunsE.block ?_ | refine RunsE.inBlock ?_ | refine RunsE.yes rfl ?_ | refine RunsE.no rfl ?_ | refine RunsE.exit rfl ?_)
  refine RunsE.region ?_
  refine OpsE.ex (Ex.call rfl Tryd.call11 (onew_spec w _ H)) rfl ?_; (try clear H); rintro _ w ⟨b, A, rfl, hA, H⟩
  refine OpsE.ev (Ev.assign rfl) rfl ?_
  refine OpsE.nil ?_
  repeat (first | refine RunsE.seq ?_ | refine RunsE.skip ?_ | refine RunsE.block ?_ | refine RunsE.inBlock ?_ | refine RunsE.yes rfl ?_ | refine RunsE.no rfl ?_ | refine RunsE.exit rfl ?_)
  refine RunsE.region ?_
  refine OpsE.ev (Ev.assign rfl) rfl ?_
  refine OpsE.nil ?_
  repeat (first | refine RunsE.seq ?_ | refine RunsE.skip ?_ | refine RunsE.block ?_ | refine RunsE.inBlock ?_ | refine RunsE.yes rfl ?_ | refine RunsE.no rfl ?_ | refine RunsE.exit rfl ?_)
  refine RunsE.region ?_
  refine OpsE.ev (Ev.move rfl) rfl ?_
  refine OpsE.ev (Ev.ptrNilEq (el := 58) rfl rfl (by kernel_rfl)) rfl ?_
  refine OpsE.nil ?_
  repeat (first | refine RunsE.seq ?_ | refine RunsE.skip ?_ | refine RunsE.block ?_ | refine RunsE.inBlock ?_ | refine RunsE.yes rfl ?_ | refine RunsE.no rfl ?_ | refine RunsE.exit rfl ?_)
  have HP : OPair F b [] (.slice none 0 0) w := .of ⟨A, [], hA, .nil, H⟩
  clear H hA A
  repeat (first | refine RunsE.seq ?_ | refine RunsE.skip ?_ | refine RunsE.block ?_ | refine RunsE.inBlock ?_ | refine RunsE.yes rfl ?_ | refine RunsE.no rfl ?_ | refine RunsE.exit rfl ?_)
  refine RunsE.region ?_
  refine OpsE.ev (Ev.assign rfl) rfl ?_
  refine OpsE.nil ?_
  repeat refine RunsE.seq ?_
  refine RunsE.join (fun v : Value => [(5, .pointer (some ⟨b, 0, none⟩)), (6, v)]) (fun v w => OPair F b (laidL l 60) v w) (fun next => ?_) ?_
  · refine RunsE.block ?_
    refine RunsE.loop (fun s : Nat × Value => [(0, .slice al l.length cl), (5, .pointer (some ⟨b, 0, none⟩)), (6, s.2), (7, .int .i64 (s.1 : Int))])
      (fun s w => s.1 ≤ 60 ∧ s.1 ≤ l.length ∧ OPair F b (laidL l s.1) s.2 w) (fun s => 60 - s.1) (0, .slice none 0 0) ⟨rfl, rfl, rfl, rfl, trivial⟩ ⟨by simp only; omega, by simp only; omega, HP⟩ ?_
    clear HP
    rintro ⟨i, v⟩ w ⟨hi, hil, HP⟩ nextL
    simp only at hi hil HP
    by_cases h1 : i = l.length
    · have e1 : laidL l i = laidL l 60 := by rw [laidL_over (n := 60) (by omega), h1]
      rw [e1] at HP
      repeat (first | refine RunsE.seq ?_ | refine RunsE.skip ?_ | refine RunsE.block ?_ | refine RunsE.inBlock ?_ | refine RunsE.yes rfl ?_ | refine RunsE.no rfl ?_ | refine RunsE.exit rfl ?_)
      refine RunsE.region ?_
      refine OpsE.ev (Ev.move rfl) rfl ?_
      refine OpsE.ev (Ev.move rfl) rfl ?_
      refine OpsE.ev (Ev.lenSl (d := 40) rfl rfl (by kernel_rfl)) rfl ?_
      refine OpsE.ev (Ev.lss (r := false) rfl rfl (decide_eq_false (by (try simp only); omega))) rfl ?_
      refine OpsE.ev (Ev.move rfl) rfl ?_
      first | (refine OpsE.yes rfl rfl ?_; refine OpsE.ev (Ev.move rfl) rfl ?_) | refine OpsE.no rfl rfl rfl ?_ | refine OpsE.off rfl rfl rfl ?_
      first | (refine OpsE.yes rfl rfl ?_; refine OpsE.ev (Ev.lss rfl rfl) rfl ?_) | refine OpsE.no rfl rfl rfl ?_ | refine OpsE.off rfl rfl rfl ?_
      refine OpsE.ev ((by first | exact Ev.pickT rfl rfl | exact Ev.pickF rfl rfl)) rfl ?_
      refine OpsE.nil ?_
      repeat refine RunsE.seq ?_
      refine RunsE.no rfl ?_
      refine RunsE.exit rfl ?_
      exact next v _ _ HP ⟨rfl, rfl, trivial⟩
    by_cases h2 : i = 60
    · subst h2
      repeat (first | refine RunsE.seq ?_ | refine RunsE.skip ?_ | refine RunsE.block ?_ | refine RunsE.inBlock ?_ | refine RunsE.yes rfl ?_ | refine RunsE.no rfl ?_ | refine RunsE.exit rfl ?_)
      refine RunsE.region ?_
      refine OpsE.ev (Ev.move rfl) rfl ?_
      refine OpsE.ev (Ev.move rfl) rfl ?_
      refine OpsE.ev (Ev.lenSl (d := 40) rfl rfl (by kernel_rfl)) rfl ?_
      refine OpsE.ev (Ev.lss (r := true) rfl rfl (decide_eq_true (by (try simp only); omega))) rfl ?_
      refine OpsE.ev (Ev.move rfl) rfl ?_
      first | (refine OpsE.yes rfl rfl ?_; refine OpsE.ev (Ev.move rfl) rfl ?_) | refine OpsE.no rfl rfl rfl ?_ | refine OpsE.off rfl rfl rfl ?_
      first | (refine OpsE.yes rfl rfl ?_; refine OpsE.ev (Ev.lss (r := false) rfl rfl (decide_eq_false (by (try simp only); omega))) rfl ?_) | refine OpsE.no rfl rfl rfl ?_ | refine OpsE.off rfl rfl rfl ?_
      refine OpsE.ev ((by first | exact Ev.pickT rfl rfl | exact Ev.pickF rfl rfl)) rfl ?_
      refine OpsE.nil ?_
      repeat refine RunsE.seq ?_
      refine RunsE.no rfl ?_
      refine RunsE.exit rfl ?_
      exact next v _ _ HP ⟨rfl, rfl, trivial⟩
    clear next
    obtain ⟨A, D, hA, hR, H⟩ := HP.ex
    obtain ⟨⟨z, h⟩, hp⟩ := el_some (xs := l) (i := i) (by omega)
    obtain ⟨bl, ol, rfl, hrd⟩ := hvl.at hp
    obtain ⟨hS, hlen⟩ := laidL_signs l i
    have hsucc := laidL_succ hp
    simp only at hsucc
    repeat (first | refine RunsE.seq ?_ | refine RunsE.skip ?_ | refine RunsE.block ?_ | refine RunsE.inBlock ?_ | refine RunsE.yes rfl ?_ | refine RunsE.no rfl ?_ | refine RunsE.exit rfl ?_)
    refine RunsE.region ?_
    refine OpsE.ev (Ev.move rfl) rfl ?_
    refine OpsE.ev (Ev.move rfl) rfl ?_
    refine OpsE.ev (Ev.lenSl (d := 40) rfl rfl (by kernel_rfl)) rfl ?_
    refine OpsE.ev (Ev.lss (r := true) rfl rfl (decide_eq_true (by (try simp only); omega))) rfl ?_
    refine OpsE.ev (Ev.move rfl) rfl ?_
    first | (refine OpsE.yes rfl rfl ?_; refine OpsE.ev (Ev.move rfl) rfl ?_) | refine OpsE.no rfl rfl rfl ?_ | refine OpsE.off rfl rfl rfl ?_
    first | (refine OpsE.yes rfl rfl ?_; refine OpsE.ev (Ev.lss (r := true) rfl rfl (decide_eq_true (by (try simp only); omega))) rfl ?_) | refine OpsE.no rfl rfl rfl ?_ | refine OpsE.off rfl rfl rfl ?_
    refine OpsE.ev ((by first | exact Ev.pickT rfl rfl | exact Ev.pickF rfl rfl)) rfl ?_
    refine OpsE.nil ?_
    repeat (first | refine RunsE.seq ?_ | refine RunsE.skip ?_ | refine RunsE.block ?_ | refine RunsE.inBlock ?_ | refine RunsE.yes rfl ?_ | refine RunsE.no rfl ?_ | refine RunsE.exit rfl ?_)
    repeat (first | refine RunsE.seq ?_ | refine RunsE.skip ?_ | refine RunsE.block ?_ | refine RunsE.inBlock ?_ | refine RunsE.yes rfl ?_ | refine RunsE.no rfl ?_ | refine RunsE.exit rfl ?_)
    refine RunsE.drawS H [11] (by kernel_rfl) ?_; (try clear H); intro w H
    refine OpsD.take 0 rfl (by kernel_rfl) (by first | exact H | exact H.drop | exact H.drop.drop | exact H.dropL | exact H.drop.dropL | exact H.dropL.drop | exact H.dropL.dropL | exact H.dropMid) (fun w H => Ev.move rfl) rfl ?_
    refine OpsD.take 1 rfl (by kernel_rfl) (by first | exact H | exact H.drop | exact H.drop.drop | exact H.dropL | exact H.drop.dropL | exact H.dropL.drop | exact H.dropL.dropL | exact H.dropMid) (fun w H => Ev.move rfl) rfl ?_
    refine OpsD.take 2 rfl (by kernel_rfl) (by first | exact H | exact H.drop | exact H.drop.drop | exact H.dropL | exact H.drop.dropL | exact H.dropL.drop | exact H.dropL.dropL | exact H.dropMid) (fun w H => Ev.move rfl) rfl ?_
    refine OpsD.take 3 rfl (by kernel_rfl) (by first | exact H | exact H.drop | exact H.drop.drop | exact H.dropL | exact H.drop.dropL | exact H.dropL.drop | exact H.dropL.dropL | exact H.dropMid) (fun w H => Ev.iaSl (n := 40) (sz := 33) (m := i) (o := ol + i * 33) rfl rfl rfl (by kernel_rfl) (by omega)) rfl ?_
    refine OpsD.take 4 rfl (by kernel_rfl) (by first | exact H | exact H.drop | exact H.drop.drop | exact H.dropL | exact H.drop.dropL | exact H.dropL.drop | exact H.dropL.dropL | exact H.dropMid) (fun w H => Ev.fieldAddr (o := 0) rfl (by kernel_rfl)) rfl ?_
    refine OpsD.take 5 rfl (by kernel_rfl) (by first | exact H | exact H.drop | exact H.drop.drop | exact H.dropL | exact H.drop.dropL | exact H.dropL.drop | exact H.dropL.dropL | exact H.dropMid) (fun w H => Ev.load (v := .int .i64 z) H rfl (by kernel_rfl) (hrd 0 _ rfl).right.right) rfl ?_
    refine OpsD.take 6 rfl (by kernel_rfl) (by first | exact H | exact H.drop | exact H.drop.drop | exact H.dropL | exact H.drop.dropL | exact H.dropL.drop | exact H.dropL.dropL | exact H.dropMid) (fun w H => Ev.move rfl) rfl ?_
    refine OpsD.take 7 rfl (by kernel_rfl) (by first | exact H | exact H.drop | exact H.drop.drop | exact H.dropL | exact H.drop.dropL | exact H.dropL.drop | exact H.dropL.dropL | exact H.dropMid) (fun w H => Ev.move rfl) rfl ?_
    refine OpsD.take 8 rfl (by kernel_rfl) (by first | exact H | exact H.drop | exact H.drop.drop | exact H.dropL | exact H.drop.dropL | exact H.dropL.drop | exact H.dropL.dropL | exact H.dropMid) (fun w H => Ev.iaSl (n := 40) (sz := 33) (m := i) (o := ol + i * 33) rfl rfl rfl (by kernel_rfl) (by omega)) rfl ?_
    refine OpsD.take 9 rfl (by kernel_rfl) (by first | exact H | exact H.drop | exact H.drop.drop | exact H.dropL | exact H.drop.dropL | exact H.dropL.drop | exact H.dropL.dropL | exact H.dropMid) (fun w H => Ev.fieldAddr (o := 1) rfl (by kernel_rfl)) rfl ?_
    refine OpsD.take 10 rfl (by kernel_rfl) (by first | exact H | exact H.drop | exact H.drop.drop | exact H.dropL | exact H.drop.dropL | exact H.dropL.drop | exact H.dropL.dropL | exact H.dropMid) (fun w H => Ev.loadAgg (vs := gH h) H rfl (by rw [gH_len]; kernel_rfl) (fun j v hj => by rw [add_none, Nat.add_assoc, Nat.add_comm 1 j]; exact (hrd (j + 1) v (by simpa using hj)).right.right)) rfl ?_
    refine OpsD.one 11 (by kernel_rfl) (StepD.exT rfl rfl (Ex.call rfl Tryd.call12 (sign_spec b (laidL l i) hS (by omega) z h A w _ hA H)) rfl ?_); (try clear H); rintro _ w ⟨A, rfl, hA, H⟩
    refine OpsD.takeU 12 rfl (by kernel_rfl) (fun w => Ev.assign rfl) rfl ?_
    refine OpsD.done (by kernel_rfl) ?_
    repeat (first | refine RunsE.seq ?_ | refine RunsE.skip ?_ | refine RunsE.block ?_ | refine RunsE.inBlock ?_ | refine RunsE.yes rfl ?_ | refine RunsE.no rfl ?_ | refine RunsE.exit rfl ?_)
    refine RunsE.drawS H [11] (by kernel_rfl) ?_; (try clear H); intro w H
    refine OpsD.take 0 rfl (by kernel_rfl) (by first | exact H | exact H.drop | exact H.drop.drop | exact H.dropL | exact H.drop.dropL | exact H.dropL.drop | exact H.dropL.dropL | exact H.dropMid) (fun w H => Ev.move rfl) rfl ?_
    refine OpsD.take 1 rfl (by kernel_rfl) (by first | exact H | exact H.drop | exact H.drop.drop | exact H.dropL | exact H.drop.dropL | exact H.dropL.drop | exact H.dropL.dropL | exact H.dropMid) (fun w H => Ev.move rfl) rfl ?_
    refine OpsD.take 2 rfl (by kernel_rfl) (by first | exact H | exact H.drop | exact H.drop.drop | exact H.dropL | exact H.drop.dropL | exact H.dropL.drop | exact H.dropL.dropL | exact H.dropMid) (fun w H => Ev.move rfl) rfl ?_
    refine OpsD.take 3 rfl (by kernel_rfl) (by first | exact H | exact H.drop | exact H.drop.drop | exact H.dropL | exact H.drop.dropL | exact H.dropL.drop | exact H.dropL.dropL | exact H.dropMid) (fun w H => Ev.iaSl (n := 40) (sz := 33) (m := i) (o := ol + i * 33) rfl rfl rfl (by kernel_rfl) (by omega)) rfl ?_
    refine OpsD.take 4 rfl (by kernel_rfl) (by first | exact H | exact H.drop | exact H.drop.drop | exact H.dropL | exact H.drop.dropL | exact H.dropL.drop | exact H.dropL.dropL | exact H.dropMid) (fun w H => Ev.fieldAddr (o := 0) rfl (by kernel_rfl)) rfl ?_
    refine OpsD.take 5 rfl (by kernel_rfl) (by first | exact H | exact H.drop | exact H.drop.drop | exact H.dropL | exact H.drop.dropL | exact H.dropL.drop | exact H.dropL.dropL | exact H.dropMid) (fun w H => Ev.load (v := .int .i64 z) H rfl (by kernel_rfl) (hrd 0 _ rfl).right.right) rfl ?_
    refine OpsD.take 6 rfl (by kernel_rfl) (by first | exact H | exact H.drop | exact H.drop.drop | exact H.dropL | exact H.drop.dropL | exact H.dropL.drop | exact H.dropL.dropL | exact H.dropMid) (fun w H => Ev.move rfl) rfl ?_
    refine OpsD.take 7 rfl (by kernel_rfl) (by first | exact H | exact H.drop | exact H.drop.drop | exact H.dropL | exact H.drop.dropL | exact H.dropL.drop | exact H.dropL.dropL | exact H.dropMid) (fun w H => Ev.move rfl) rfl ?_
    refine OpsD.take 8 rfl (by kernel_rfl) (by first | exact H | exact H.drop | exact H.drop.drop | exact H.dropL | exact H.drop.dropL | exact H.dropL.drop | exact H.dropL.dropL | exact H.dropMid) (fun w H => Ev.iaSl (n := 40) (sz := 33) (m := i) (o := ol + i * 33) rfl rfl rfl (by kernel_rfl) (by omega)) rfl ?_
    refine OpsD.take 9 rfl (by kernel_rfl) (by first | exact H | exact H.drop | exact H.drop.drop | exact H.dropL | exact H.drop.dropL | exact H.dropL.drop | exact H.dropL.dropL | exact H.dropMid) (fun w H => Ev.fieldAddr (o := 1) rfl (by kernel_rfl)) rfl ?_
    refine OpsD.take 10 rfl (by kernel_rfl) (by first | exact H | exact H.drop | exact H.drop.drop | exact H.dropL | exact H.drop.dropL | exact H.dropL.drop | exact H.dropL.dropL | exact H.dropMid) (fun w H => Ev.loadAgg (vs := gH h) H rfl (by rw [gH_len]; kernel_rfl) (fun j v hj => by rw [add_none, Nat.add_assoc, Nat.add_comm 1 j]; exact (hrd (j + 1) v (by simpa using hj)).right.right)) rfl ?_
    refine OpsD.one 11 (by kernel_rfl) (StepD.exT rfl rfl (Ex.call rfl Tryd.call24 (radd_spec (laidL l i) v (by omega) z h w _ D (fun p hp => List.mem_append_right _ (List.mem_append_left _ hp)) hR H)) rfl ?_); (try clear H); rintro _ w ⟨B, v', rfl, hR', H⟩
    refine OpsD.takeU 12 rfl (by kernel_rfl) (fun w => Ev.move rfl) rfl ?_
    refine OpsD.takeU 13 rfl (by kernel_rfl) (fun w => Ev.extract rfl rfl) rfl ?_
    refine OpsD.takeU 14 rfl (by kernel_rfl) (fun w => Ev.extract rfl rfl) rfl ?_
    refine OpsD.takeU 15 rfl (by kernel_rfl) (fun w => Ev.assign rfl) rfl ?_
    refine OpsD.takeU 16 rfl (by kernel_rfl) (fun w => Ev.assign rfl) rfl ?_
    refine OpsD.done (by kernel_rfl) ?_
    repeat (first | refine RunsE.seq ?_ | refine RunsE.skip ?_ | refine RunsE.block ?_ | refine RunsE.inBlock ?_ | refine RunsE.yes rfl ?_ | refine RunsE.no rfl ?_ | refine RunsE.exit rfl ?_)
    refine RunsE.region ?_
    refine OpsE.ev (Ev.move rfl) rfl ?_
    refine OpsE.ev (Ev.assign rfl) rfl ?_
    refine OpsE.nil ?_
    repeat (first | refine RunsE.seq ?_ | refine RunsE.skip ?_ | refine RunsE.block ?_ | refine RunsE.inBlock ?_ | refine RunsE.yes rfl ?_ | refine RunsE.no rfl ?_ | refine RunsE.exit rfl ?_)
    refine RunsE.region ?_
    refine OpsE.ev (Ev.move rfl) rfl ?_
    refine OpsE.ex (Ex.call rfl Tryd.call18 (num_en _ w _ hE.right.right.right H)) rfl ?_; (try clear H); rintro _ w ⟨rfl, H⟩
    refine OpsE.ev (Ev.move rfl) rfl ?_
    refine OpsE.ev (Ev.neq (r := false) rfl rfl (by simp)) rfl ?_
    refine OpsE.nil ?_
    repeat refine RunsE.seq ?_
    refine RunsE.no rfl ?_
    refine RunsE.skip ?_
    refine RunsE.inBlock ?_
    repeat (first | refine RunsE.seq ?_ | refine RunsE.skip ?_ | refine RunsE.block ?_ | refine RunsE.inBlock ?_ | refine RunsE.yes rfl ?_ | refine RunsE.no rfl ?_ | refine RunsE.exit rfl ?_)
    refine RunsE.region ?_
    refine OpsE.ev (Ev.move rfl) rfl ?_
    refine OpsE.ev (Ev.add rfl rfl) rfl ?_
    refine OpsE.ev (Ev.assign rfl) rfl ?_
    refine OpsE.nil ?_
    exact nextL (i + 1, v') _ _ (by simp only; omega) ⟨by simp only; omega, by simp only; omega, .of ⟨A, B ++ D, by rw [hsucc]; exact hA, by rw [hsucc]; exact hR', by rw [List.append_assoc]; exact H.swapL⟩⟩ ⟨rfl, rfl, rfl, rfl, trivial⟩
  clear HP
  rintro v w HP
  repeat (first | refine RunsE.seq ?_ | refine RunsE.skip ?_ | refine RunsE.block ?_ | refine RunsE.inBlock ?_ | refine RunsE.yes rfl ?_ | refine RunsE.no rfl ?_ | refine RunsE.exit rfl ?_)
  refine RunsE.region ?_
  refine OpsE.ev (Ev.move rfl) rfl ?_
  refine OpsE.ev (Ev.move rfl) rfl ?_
  refine OpsE.ev (Ev.assign rfl) rfl ?_
  refine OpsE.ev (Ev.assign rfl) rfl ?_
  refine OpsE.ev (Ev.assign rfl) rfl ?_
  refine OpsE.nil ?_
  repeat (first | refine RunsE.seq ?_ | refine RunsE.skip ?_ | refine RunsE.block ?_ | refine RunsE.inBlock ?_ | refine RunsE.yes rfl ?_ | refine RunsE.no rfl ?_ | refine RunsE.exit rfl ?_)
  exact RunsE.ret3 Tryd.func7 rfl rfl rfl rfl ⟨b, v, rfl, HP⟩

set_option maxHeartbeats 2000000 in
theorem sure_spec [Strm] (w : World) (F : List (Nat × Obj)) (hE : ErrIn F) (H : SL w F) : Does Tryd.prog 8 #[] w fun r w' => r = .bool true ∧ SL w' F := by
  have s1 : Signs (addZ [] 1 h7) := Signs.nil.add 1 h7
  have hwho : whoOf (addZ [] 1 h7) h7 = [1] := by decide +kernel
  refine Does.intro (args := []) (e := []) Tryd.func8 rfl Tryd.ntmps8 rfl rfl ?_
  repeat (first | refine RunsE.seq ?_ | refine RunsE.skip ?_ | refine RunsE.block ?_ | refine RunsE.inBlock ?_ | refine RunsE.yes rfl ?_ | refine RunsE.no rfl ?_ | refine RunsE.exit rfl ?_)
  repeat (first | refine RunsE.seq ?_ | refine RunsE.skip ?_ | refine RunsE.block ?_ | refine RunsE.inBlock ?_ | refine RunsE.yes rfl ?_ | refine RunsE.no rfl ?_ | refine RunsE.exit rfl ?_)
  refine RunsE.region ?_
  refine OpsE.ev (Ev.assign rfl) rfl ?_
  refine OpsE.nil ?_
  repeat (first | refine RunsE.seq ?_ | refine RunsE.skip ?_ | refine RunsE.block ?_ | refine RunsE.inBlock ?_ | refine RunsE.yes rfl ?_ | refine RunsE.no rfl ?_ | refine RunsE.exit rfl ?_)
  refine RunsE.region ?_
  refine OpsE.ex (Ex.call rfl Tryd.call11 (onew_spec w _ H)) rfl ?_; (try clear H); rintro _ w ⟨b, A, rfl, hA, H⟩
  refine OpsE.ev (Ev.assign rfl) rfl ?_
  refine OpsE.nil ?_
  repeat (first | refine RunsE.seq ?_ | refine RunsE.skip ?_ | refine RunsE.block ?_ | refine RunsE.inBlock ?_ | refine RunsE.yes rfl ?_ | refine RunsE.no rfl ?_ | refine RunsE.exit rfl ?_)
  refine RunsE.region ?_
  refine OpsE.ev (Ev.move rfl) rfl ?_
  refine OpsE.ev (Ev.ptrNilNe (el := 58) rfl rfl (by kernel_rfl)) rfl ?_
  refine OpsE.ev (Ev.move rfl) rfl ?_
  first | (refine OpsE.yes rfl rfl ?_; refine OpsE.ev (Ev.move rfl) rfl ?_) | refine OpsE.no rfl rfl rfl ?_ | refine OpsE.off rfl rfl rfl ?_
  first | (refine OpsE.yes rfl rfl ?_; refine OpsE.ev (Ev.buildArrP (n := 32) (ps := [(0, .int .u8 7)]) (zv := .agg (List.replicate 32 (.int .u8 0)).toArray) (cs := (gH h7).toArray) rfl (by kernel_rfl) (by kernel_rfl) (by kernel_rfl)) rfl ?_) | refine OpsE.no rfl rfl rfl ?_ | refine OpsE.off rfl rfl rfl ?_
  first | (refine OpsE.yes rfl rfl ?_; refine OpsE.ex (Ex.call rfl Tryd.call12 (sign_spec b [] Signs.nil (by decide) 1 h7 A w _ hA H)) rfl ?_; (try clear H); rintro _ w ⟨A, rfl, hA, H⟩) | refine OpsE.no rfl rfl rfl ?_ | refine OpsE.off rfl rfl rfl ?_
  first | (refine OpsE.yes rfl rfl ?_; refine OpsE.ev (Ev.ifNilEqT rfl Tryd.underlying34) rfl ?_) | refine OpsE.no rfl rfl rfl ?_ | refine OpsE.off rfl rfl rfl ?_
  refine OpsE.ev ((by first | exact Ev.pickT rfl rfl | exact Ev.pickF rfl rfl)) rfl ?_
  refine OpsE.ev (Ev.move rfl) rfl ?_
  first | (refine OpsE.yes rfl rfl ?_; refine OpsE.ev (Ev.move rfl) rfl ?_) | refine OpsE.no rfl rfl rfl ?_ | refine OpsE.off rfl rfl rfl ?_
  first | (refine OpsE.yes rfl rfl ?_; refine OpsE.ev (Ev.buildArrP (n := 32) (ps := [(0, .int .u8 7)]) (zv := .agg (List.replicate 32 (.int .u8 0)).toArray) (cs := (gH h7).toArray) rfl (by kernel_rfl) (by kernel_rfl) (by kernel_rfl)) rfl ?_) | refine OpsE.no rfl rfl rfl ?_ | refine OpsE.off rfl rfl rfl ?_
  first | (refine OpsE.yes rfl rfl ?_; refine OpsE.ex (Ex.call rfl Tryd.call17 (has_spec b _ s1 h7 1 A w _ hA H)) rfl ?_; (try clear H); rintro _ w ⟨rfl, H⟩) | refine OpsE.no rfl rfl rfl ?_ | refine OpsE.off rfl rfl rfl ?_
  refine OpsE.ev ((by first | exact Ev.pickT rfl rfl | exact Ev.pickF rfl rfl)) rfl ?_
  refine OpsE.ev (Ev.move rfl) rfl ?_
  first | (refine OpsE.yes rfl rfl ?_; refine OpsE.ev (Ev.move rfl) rfl ?_) | refine OpsE.no rfl rfl rfl ?_ | refine OpsE.off rfl rfl rfl ?_
  first | (refine OpsE.yes rfl rfl ?_; refine OpsE.ev (Ev.buildArrP (n := 32) (ps := [(0, .int .u8 7)]) (zv := .agg (List.replicate 32 (.int .u8 0)).toArray) (cs := (gH h7).toArray) rfl (by kernel_rfl) (by kernel_rfl) (by kernel_rfl)) rfl ?_) | refine OpsE.no rfl rfl rfl ?_ | refine OpsE.off rfl rfl rfl ?_
  first | (refine OpsE.yes rfl rfl ?_; refine OpsE.ex (Ex.call rfl Tryd.call17 (has_spec b _ s1 h7 2 A w _ hA H)) rfl ?_; (try clear H); rintro _ w ⟨rfl, H⟩) | refine OpsE.no rfl rfl rfl ?_ | refine OpsE.off rfl rfl rfl ?_
  first | (refine OpsE.yes rfl rfl ?_; refine OpsE.ev (Ev.not rfl) rfl ?_) | refine OpsE.no rfl rfl rfl ?_ | refine OpsE.off rfl rfl rfl ?_
  refine OpsE.ev ((by first | exact Ev.pickT rfl rfl | exact Ev.pickF rfl rfl)) rfl ?_
  refine OpsE.ev (Ev.move rfl) rfl ?_
  first | (refine OpsE.yes rfl rfl ?_; refine OpsE.ev (Ev.move rfl) rfl ?_) | refine OpsE.no rfl rfl rfl ?_ | refine OpsE.off rfl rfl rfl ?_
  first | (refine OpsE.yes rfl rfl ?_; refine OpsE.ev (Ev.buildArrP (n := 32) (ps := [(0, .int .u8 7)]) (zv := .agg (List.replicate 32 (.int .u8 0)).toArray) (cs := (gH h7).toArray) rfl (by kernel_rfl) (by kernel_rfl) (by kernel_rfl)) rfl ?_) | refine OpsE.no rfl rfl rfl ?_ | refine OpsE.off rfl rfl rfl ?_
  first | (refine OpsE.yes rfl rfl ?_; refine OpsE.ex (Ex.call rfl Tryd.call14 (who_spec b _ h7 A w _ hA H)) rfl ?_; (try clear H); rintro u w ⟨B, hs, H⟩; rw [hwho] at hs) | refine OpsE.no rfl rfl rfl ?_ | refine OpsE.off rfl rfl rfl ?_
  first | (refine OpsE.yes rfl rfl ?_; refine OpsE.ex (Ex.buildSl (T := 3) (zv := .int .i64 0) H rfl (by kernel_rfl) (by kernel_rfl) (by simp [Value.oneCell']) rfl (by omega) (by omega)) rfl ?_; (try clear H); rintro _ w ⟨b26, rfl, H⟩) | refine OpsE.no rfl rfl rfl ?_ | refine OpsE.off rfl rfl rfl ?_
  first | (refine OpsE.yes rfl rfl ?_; refine OpsE.ex (Ex.call rfl Tryd.call13 (ints_spec [1] u _ (by decide) w _ ((hs.rdS fun _ => rfl).sub fun p hp => .tail _ hp) (one_rd (.head _)) H)) rfl ?_; (try clear H); rintro _ w ⟨rfl, H⟩) | refine OpsE.no rfl rfl rfl ?_ | refine OpsE.off rfl rfl rfl ?_
  refine OpsE.ev ((by first | exact Ev.pickT rfl rfl | exact Ev.pickF rfl rfl)) rfl ?_
  refine OpsE.ev (Ev.move rfl) rfl ?_
  first | (refine OpsE.yes rfl rfl ?_; refine OpsE.ev (Ev.move rfl) rfl ?_) | refine OpsE.no rfl rfl rfl ?_ | refine OpsE.off rfl rfl rfl ?_
  first | (refine OpsE.yes rfl rfl ?_; refine OpsE.ev (Ev.buildZero (n := 32) (sz := 1) (zv := .agg (List.replicate 32 (.int .u8 0)).toArray) (by kernel_rfl) (by kernel_rfl)) rfl ?_) | refine OpsE.no rfl rfl rfl ?_ | refine OpsE.off rfl rfl rfl ?_
  first | (refine OpsE.yes rfl rfl ?_; refine OpsE.ex (Ex.call rfl Tryd.call12 (sign_spec b _ s1 (by decide) 16 h0 A w _ hA H.drop.dropL)) rfl ?_; (try clear H); rintro _ w ⟨A, rfl, hA, H⟩) | refine OpsE.no rfl rfl rfl ?_ | refine OpsE.off rfl rfl rfl ?_
  first | (refine OpsE.yes rfl rfl ?_; refine OpsE.ex (Ex.call rfl Tryd.call18 (num_en 33 w _ hE.right H)) rfl ?_; (try clear H); rintro _ w ⟨rfl, H⟩) | refine OpsE.no rfl rfl rfl ?_ | refine OpsE.off rfl rfl rfl ?_
  first | (refine OpsE.yes rfl rfl ?_; refine OpsE.ev (Ev.eql (r := true) rfl rfl rfl) rfl ?_) | refine OpsE.no rfl rfl rfl ?_ | refine OpsE.off rfl rfl rfl ?_
  refine OpsE.ev ((by first | exact Ev.pickT rfl rfl | exact Ev.pickF rfl rfl)) rfl ?_
  refine OpsE.ev (Ev.assign rfl) rfl ?_
  refine OpsE.nil ?_
  repeat (first | refine RunsE.seq ?_ | refine RunsE.skip ?_ | refine RunsE.block ?_ | refine RunsE.inBlock ?_ | refine RunsE.yes rfl ?_ | refine RunsE.no rfl ?_ | refine RunsE.exit rfl ?_)
  exact RunsE.ret1 Tryd.func8 rfl rfl ⟨rfl, H.dropL⟩

end Go.Proofs.YtniihnncgblocaaDoor
