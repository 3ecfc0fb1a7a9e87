/-
  The document's list: Has, Add, All, Who, Sums; lists, one by one.
-/
import Derived.Test.YtniihnncgblocaaDoorOathE
import Derived.Test.YtniihnncgblocaaDoorVAgg
namespace Go.Proofs.YtniihnncgblocaaDoor.V

/-- A signature, as a slice's element. -/
abbrev gG (s : Sg) : List Value := .int .i64 (s.1 : Int) :: gH s.2
theorem gG_len (s : Sg) : (gG s).length = 33 := by rw [List.length_cons, gH_len]
theorem gG_one : ∀ s : Sg, ∀ v ∈ gG s, v.oneCell' = true := fun s v hv => by
  rcases List.mem_cons.1 hv with rfl | hv
  · rfl
  · exact gH_one s.2 v hv

/-- The list, read where it lies. -/
abbrev RefL (G : List (Nat × Obj)) (L : List Sg) (v : Value) : Prop := RdS G 33 v L.length (L.flatMap gG)

/-- An element, read. -/
theorem RdS.el {α : Type} {g : α → List Value} {sz : Nat} {G : List (Nat × Obj)} {a : Option Addr} {n' c i : Nat} {xs : List α} {x : α} (h : RdS G sz (.slice a n' c) xs.length (xs.flatMap g)) (hg : ∀ x, (g x).length = sz) (hi : xs[i]? = some x) :
    ∃ b off, a = some ⟨b, off, none⟩ ∧ ∀ (j : Nat) v, (g x)[j]? = some v → Rd G ⟨b, off + i * sz + j, none⟩ v := by
  have hlt : i < xs.length := by
    rcases Nat.lt_or_ge i xs.length with h | h
    · exact h
    · rw [List.getElem?_eq_none h] at hi; cases hi
  obtain ⟨b, off, e, hr⟩ := h.at (by omega)
  refine ⟨b, off, e, fun j v hj => ?_⟩
  have hjs : j < sz := by
    rcases Nat.lt_or_ge j (g x).length with h | h
    · rw [hg] at h; exact h
    · rw [List.getElem?_eq_none h] at hj; cases hj
  rw [Nat.add_assoc]
  refine hr _ _ ?_
  rw [flatMap_get hg xs i j x hi hjs]
  exact hj

theorem RdS.capped {G : List (Nat × Obj)} {sz n c : Nat} {a : Option Addr} {cs : List Value} (h : RdS G sz (.slice a n c) n cs) : RdS G sz (.slice a n n) n cs := by
  generalize hv : Value.slice a n c = v at h
  cases h with
  | nil => cases hv; exact .nil
  | blk b off n' c' cs h1 h2 h3 => cases hv; exact .blk b off n n cs h1 (Nat.le_refl _) h3

theorem el_some {α : Type} {xs : List α} {i : Nat} (h : i < xs.length) : ∃ x, xs[i]? = some x := ⟨xs[i], by simp [h]⟩

theorem hasZ_take {L : List Sg} {z : Int} {h : Hash} {i : Nat} {s : Sg} (hi : L[i]? = some s) : hasZ (L.take (i + 1)) z h = (hasZ (L.take i) z h || (decide ((s.1 : Int) = z) && decide (s.2 = h))) := by
  unfold hasZ
  rw [List.take_add_one, hi, List.any_append]
  simp

theorem beq_hash (a b : Hash) : (a.1 == b.1) = decide (a = b) := by
  rw [Bool.eq_iff_iff, beq_iff_eq, decide_eq_true_iff]
  exact ⟨Subtype.ext, fun h => congrArg _ h⟩

section
variable {P : Program} {w : World} {e : Env} {ty t : TypeId} {x y : Operand}
/-- A signature's literal. -/
theorem Ev.buildSg {z : Int} {h : Hash} (hx : e.val x = some (.int .i64 z)) (hy : e.val y = some (.agg (gH h).toArray)) (ht : structT P t = some [(0, 1), (1, 32)]) (hz : zeroT P t = some (.agg (.int .i64 0 :: List.replicate 32 (.int .u8 0)).toArray)) :
    Ev P w e (.build t #[(0, x), (1, y)]) ty (.agg (.int .i64 z :: gH h).toArray) := by
  refine Ev.buildSt (l := [(0, x), (1, y)]) (ps := [(0, .int .i64 z), (1, .agg (gH h).toArray)]) (pl := [(0, 1), (1, 32)]) (by simp [Env.partsI, hx, hy]) ht hz ?_
  have h1 := gH_len h
  unfold fillP
  simp only [Value.cells, List.getElem?_cons_zero, List.size_toArray, List.length_cons, List.length_replicate, List.length_nil]
  rw [if_pos (by constructor <;> simp)]
  unfold fillP
  have e1 : putAt (.int .i64 0 :: List.replicate 32 (Value.int .u8 0)).toArray 0 [Value.int .i64 z] = (.int .i64 z :: List.replicate 32 (Value.int .u8 0)).toArray := by
    simp [putAt]
  have e2 : putAt (.int .i64 z :: List.replicate 32 (Value.int .u8 0)).toArray 1 (gH h) = (.int .i64 z :: gH h).toArray := by
    have := putAt_append (pre := [Value.int .i64 z]) (mid := List.replicate 32 (Value.int .u8 0)) (post := []) (vs := gH h) (off := 1) rfl (by rw [h1]; simp)
    simpa using this
  simp only [Value.cells, List.getElem?_cons_succ, List.getElem?_cons_zero, List.size_toArray, h1, e1, List.length_cons, List.length_replicate]
  rw [if_pos (by constructor <;> simp)]
  unfold fillP
  rw [e2]
end

end Go.Proofs.YtniihnncgblocaaDoor.V
namespace Go.Proofs.YtniihnncgblocaaDoor
open Go.Proofs.YtniihnncgblocaaDoor.V

theorem hashT : bytesArr Tryd.prog 25 = some 32 := by kernel_rfl
theorem hashEq {w : World} {e : Env} {x y : Operand} {t' ty : TypeId} (a b : Hash) (hx : e.val x = some (hV a.1)) (hy : e.val y = some (hV b.1)) : Ev Tryd.prog w e (.binOp .eql 25 x y t') ty (.bool (decide (a = b))) := by
  rw [← beq_hash]
  exact Ev.bytesEq (n := 32) hx hy hashT a.2 b.2
theorem hashNe {w : World} {e : Env} {x y : Operand} {t' ty : TypeId} (a b : Hash) (hx : e.val x = some (hV a.1)) (hy : e.val y = some (hV b.1)) : Ev Tryd.prog w e (.binOp .neq 25 x y t') ty (.bool (!(decide (a = b)))) := by
  rw [← beq_hash]
  exact Ev.bytesNe (n := 32) hx hy hashT a.2 b.2

set_option maxHeartbeats 1000000 in
theorem rhas_spec [Strm] (L : List Sg) (v : Value) (hL : L.length ≤ 1000) (z : Int) (h : Hash) (w : World) (X : List (Nat × Obj)) (hR : RefL X L v) (H : SL w X) :
    Does Tryd.prog 22 #[v, .int .i64 z, hV h.1] w fun r w' => r = .bool (hasZ L z h) ∧ SL w' X := by
  obtain ⟨a, c, rfl, hc⟩ := hR.len
  refine Does.intro (args := [_, _, _]) (e := [(0, _), (1, _), (2, _)]) Tryd.func22 rfl Tryd.ntmps22 rfl rfl ?_
  repeat (first | refine RunsE.seq ?_ | refine RunsE.skip ?_ | refine RunsE.block ?_ | refine RunsE.inBlock ?_ | refine RunsE.yes rfl ?_ | refine RunsE.no rfl ?_ | refine RunsE.exit rfl ?_)
  repeat (first | refine RunsE.seq ?_ | refine RunsE.skip ?_ | refine RunsE.block ?_ | refine RunsE.inBlock ?_ | refine RunsE.yes rfl ?_ | refine RunsE.no rfl ?_ | refine RunsE.exit rfl ?_)
  refine RunsE.region ?_
  refine OpsE.ex (Ex.box H rfl) rfl ?_; (try clear H); rintro _ w ⟨b5, rfl, H⟩; simp only [Value.cells] at H
  refine OpsE.ev (Ev.assign rfl) rfl ?_
  refine OpsE.nil ?_
  repeat (first | refine RunsE.seq ?_ | refine RunsE.skip ?_ | refine RunsE.block ?_ | refine RunsE.inBlock ?_ | refine RunsE.yes rfl ?_ | refine RunsE.no rfl ?_ | refine RunsE.exit rfl ?_)
  refine RunsE.region ?_
  refine OpsE.ev (Ev.assign rfl) rfl ?_
  refine OpsE.nil ?_
  repeat refine RunsE.seq ?_
  refine RunsE.join (fun _ : Unit => []) (fun _ w => hasZ L z h = false ∧ SL w X) (fun next => ?_) ?_
  · refine RunsE.block ?_
    refine RunsE.loop (fun i : Nat => [(0, .slice a L.length c), (1, .int .i64 z), (5, .pointer (some ⟨b5, 0, none⟩)), (7, .int .i64 (i : Int))])
      (fun i w => i ≤ L.length ∧ hasZ (L.take i) z h = false ∧ SL w ((b5, .cells (gH h).toArray 25 (0, 0)) :: X)) (fun i => L.length - i) 0 ⟨rfl, rfl, rfl, rfl, trivial⟩ ⟨by omega, rfl, H⟩ ?_
    clear H
    rintro i w ⟨hi, hno, H⟩ nextL
    by_cases h1 : i = L.length
    ·
      repeat (first | refine RunsE.seq ?_ | refine RunsE.skip ?_ | refine RunsE.block ?_ | refine RunsE.inBlock ?_ | refine RunsE.yes rfl ?_ | refine RunsE.no rfl ?_ | refine RunsE.exit rfl ?_)
      refine RunsE.region ?_
      refine OpsE.ev (Ev.move rfl) rfl ?_
      refine OpsE.ev (Ev.move rfl) rfl ?_
      refine OpsE.ev (Ev.lenSl (d := 40) rfl rfl (by kernel_rfl)) rfl ?_
      refine OpsE.ev (Ev.lss (r := false) rfl rfl (decide_eq_false (by omega))) rfl ?_
      refine OpsE.nil ?_
      repeat refine RunsE.seq ?_
      refine RunsE.no rfl ?_
      refine RunsE.exit rfl ?_
      rw [h1, List.take_length] at hno
      exact next () _ _ ⟨hno, H.drop⟩ trivial
    clear next
    have hil : i < L.length := by omega
    obtain ⟨s, hs⟩ := el_some hil
    obtain ⟨b, off, rfl, hrd⟩ := RdS.el hR gG_len hs
    have htk := hasZ_take (z := z) (h := h) hs
    rw [hno, Bool.false_or] at htk
    repeat (first | refine RunsE.seq ?_ | refine RunsE.skip ?_ | refine RunsE.block ?_ | refine RunsE.inBlock ?_ | refine RunsE.yes rfl ?_ | refine RunsE.no rfl ?_ | refine RunsE.exit rfl ?_)
    refine RunsE.region ?_
    refine OpsE.ev (Ev.move rfl) rfl ?_
    refine OpsE.ev (Ev.move rfl) rfl ?_
    refine OpsE.ev (Ev.lenSl (d := 40) rfl rfl (by kernel_rfl)) rfl ?_
    refine OpsE.ev (Ev.lss (r := true) rfl rfl (decide_eq_true (by omega))) rfl ?_
    refine OpsE.nil ?_
    repeat (first | refine RunsE.seq ?_ | refine RunsE.skip ?_ | refine RunsE.block ?_ | refine RunsE.inBlock ?_ | refine RunsE.yes rfl ?_ | refine RunsE.no rfl ?_ | refine RunsE.exit rfl ?_)
    by_cases h2 : (s.1 : Int) = z
    ·
      repeat (first | refine RunsE.seq ?_ | refine RunsE.skip ?_ | refine RunsE.block ?_ | refine RunsE.inBlock ?_ | refine RunsE.yes rfl ?_ | refine RunsE.no rfl ?_ | refine RunsE.exit rfl ?_)
      refine RunsE.drawS H [] (by kernel_rfl) ?_; (try clear H); intro w H
      refine OpsD.take 0 rfl (by kernel_rfl) (by first | exact H | exact H.drop | exact H.drop.drop | exact H.dropL | exact H.drop.dropL | exact H.dropL.drop | exact H.dropL.dropL | exact H.dropMid) (fun w H => Ev.move rfl) rfl ?_
      refine OpsD.take 1 rfl (by kernel_rfl) (by first | exact H | exact H.drop | exact H.drop.drop | exact H.dropL | exact H.drop.dropL | exact H.dropL.drop | exact H.dropL.dropL | exact H.dropMid) (fun w H => Ev.move rfl) rfl ?_
      refine OpsD.take 2 rfl (by kernel_rfl) (by first | exact H | exact H.drop | exact H.drop.drop | exact H.dropL | exact H.drop.dropL | exact H.dropL.drop | exact H.dropL.dropL | exact H.dropMid) (fun w H => Ev.iaSl (n := 40) (sz := 33) (m := i) (o := off + i * 33) rfl rfl rfl (by kernel_rfl) (by omega)) rfl ?_
      refine OpsD.take 3 rfl (by kernel_rfl) (by first | exact H | exact H.drop | exact H.drop.drop | exact H.dropL | exact H.drop.dropL | exact H.dropL.drop | exact H.dropL.dropL | exact H.dropMid) (fun w H => Ev.fieldAddr (o := 0) rfl (by kernel_rfl)) rfl ?_
      refine OpsD.take 4 rfl (by kernel_rfl) (by first | exact H | exact H.drop | exact H.drop.drop | exact H.dropL | exact H.drop.dropL | exact H.dropL.drop | exact H.dropL.dropL | exact H.dropMid) (fun w H => Ev.load (v := .int .i64 (s.1 : Int)) H rfl (by kernel_rfl) (hrd 0 _ rfl).tail) rfl ?_
      refine OpsD.take 5 rfl (by kernel_rfl) (by first | exact H | exact H.drop | exact H.drop.drop | exact H.dropL | exact H.drop.dropL | exact H.dropL.drop | exact H.dropL.dropL | exact H.dropMid) (fun w H => Ev.move rfl) rfl ?_
      refine OpsD.take 6 rfl (by kernel_rfl) (by first | exact H | exact H.drop | exact H.drop.drop | exact H.dropL | exact H.drop.dropL | exact H.dropL.drop | exact H.dropL.dropL | exact H.dropMid) (fun w H => Ev.eql (r := true) rfl rfl (beq_iff_eq.2 h2)) rfl ?_
      refine OpsD.take 7 rfl (by kernel_rfl) (by first | exact H | exact H.drop | exact H.drop.drop | exact H.dropL | exact H.drop.dropL | exact H.dropL.drop | exact H.dropL.dropL | exact H.dropMid) (fun w H => Ev.move rfl) rfl ?_
      first | refine OpsD.takeYes 8 rfl (by kernel_rfl) rfl rfl (by first | exact H | exact H.drop | exact H.drop.drop | exact H.dropL | exact H.drop.dropL | exact H.dropL.drop | exact H.dropL.dropL | exact H.dropMid) (fun w H => Ev.move rfl) rfl ?_ | refine OpsD.takeNo 8 rfl (by kernel_rfl) rfl rfl (by first | exact H | exact H.drop | exact H.drop.drop | exact H.dropL | exact H.drop.dropL | exact H.dropL.drop | exact H.dropL.dropL | exact H.dropMid) rfl ?_ | refine OpsD.takeOff 8 rfl (by kernel_rfl) rfl rfl (by first | exact H | exact H.drop | exact H.drop.drop | exact H.dropL | exact H.drop.dropL | exact H.dropL.drop | exact H.dropL.dropL | exact H.dropMid) rfl ?_
      first | refine OpsD.takeYes 9 rfl (by kernel_rfl) rfl rfl (by first | exact H | exact H.drop | exact H.drop.drop | exact H.dropL | exact H.drop.dropL | exact H.dropL.drop | exact H.dropL.dropL | exact H.dropMid) (fun w H => Ev.move rfl) rfl ?_ | refine OpsD.takeNo 9 rfl (by kernel_rfl) rfl rfl (by first | exact H | exact H.drop | exact H.drop.drop | exact H.dropL | exact H.drop.dropL | exact H.dropL.drop | exact H.dropL.dropL | exact H.dropMid) rfl ?_ | refine OpsD.takeOff 9 rfl (by kernel_rfl) rfl rfl (by first | exact H | exact H.drop | exact H.drop.drop | exact H.dropL | exact H.drop.dropL | exact H.dropL.drop | exact H.dropL.dropL | exact H.dropMid) rfl ?_
      first | refine OpsD.takeYes 10 rfl (by kernel_rfl) rfl rfl (by first | exact H | exact H.drop | exact H.drop.drop | exact H.dropL | exact H.drop.dropL | exact H.dropL.drop | exact H.dropL.dropL | exact H.dropMid) (fun w H => Ev.iaSl (n := 40) (sz := 33) (m := i) (o := off + i * 33) rfl rfl rfl (by kernel_rfl) (by omega)) rfl ?_ | refine OpsD.takeNo 10 rfl (by kernel_rfl) rfl rfl (by first | exact H | exact H.drop | exact H.drop.drop | exact H.dropL | exact H.drop.dropL | exact H.dropL.drop | exact H.dropL.dropL | exact H.dropMid) rfl ?_ | refine OpsD.takeOff 10 rfl (by kernel_rfl) rfl rfl (by first | exact H | exact H.drop | exact H.drop.drop | exact H.dropL | exact H.drop.dropL | exact H.dropL.drop | exact H.dropL.dropL | exact H.dropMid) rfl ?_
      first | refine OpsD.takeYes 11 rfl (by kernel_rfl) rfl rfl (by first | exact H | exact H.drop | exact H.drop.drop | exact H.dropL | exact H.drop.dropL | exact H.dropL.drop | exact H.dropL.dropL | exact H.dropMid) (fun w H => Ev.fieldAddr (o := 1) rfl (by kernel_rfl)) rfl ?_ | refine OpsD.takeNo 11 rfl (by kernel_rfl) rfl rfl (by first | exact H | exact H.drop | exact H.drop.drop | exact H.dropL | exact H.drop.dropL | exact H.dropL.drop | exact H.dropL.dropL | exact H.dropMid) rfl ?_ | refine OpsD.takeOff 11 rfl (by kernel_rfl) rfl rfl (by first | exact H | exact H.drop | exact H.drop.drop | exact H.dropL | exact H.drop.dropL | exact H.dropL.drop | exact H.dropL.dropL | exact H.dropMid) rfl ?_
      first | refine OpsD.takeYes 12 rfl (by kernel_rfl) rfl rfl (by first | exact H | exact H.drop | exact H.drop.drop | exact H.dropL | exact H.drop.dropL | exact H.dropL.drop | exact H.dropL.dropL | exact H.dropMid) (fun w H => Ev.loadAgg (vs := gH s.2) H rfl (by rw [gH_len]; kernel_rfl) (fun j v hj => by rw [add_none, Nat.add_assoc, Nat.add_comm 1 j]; exact (hrd (j + 1) v (by simpa using hj)).tail)) rfl ?_ | refine OpsD.takeNo 12 rfl (by kernel_rfl) rfl rfl (by first | exact H | exact H.drop | exact H.drop.drop | exact H.dropL | exact H.drop.dropL | exact H.dropL.drop | exact H.dropL.dropL | exact H.dropMid) rfl ?_ | refine OpsD.takeOff 12 rfl (by kernel_rfl) rfl rfl (by first | exact H | exact H.drop | exact H.drop.drop | exact H.dropL | exact H.drop.dropL | exact H.dropL.drop | exact H.dropL.dropL | exact H.dropMid) rfl ?_
      first | refine OpsD.takeYes 13 rfl (by kernel_rfl) rfl rfl (by first | exact H | exact H.drop | exact H.drop.drop | exact H.dropL | exact H.drop.dropL | exact H.dropL.drop | exact H.dropL.dropL | exact H.dropMid) (fun w H => Ev.loadBlk (n := 32) (vs := gH h) H rfl (by kernel_rfl) (gH_len h) m0) rfl ?_ | refine OpsD.takeNo 13 rfl (by kernel_rfl) rfl rfl (by first | exact H | exact H.drop | exact H.drop.drop | exact H.dropL | exact H.drop.dropL | exact H.dropL.drop | exact H.dropL.dropL | exact H.dropMid) rfl ?_ | refine OpsD.takeOff 13 rfl (by kernel_rfl) rfl rfl (by first | exact H | exact H.drop | exact H.drop.drop | exact H.dropL | exact H.drop.dropL | exact H.dropL.drop | exact H.dropL.dropL | exact H.dropMid) rfl ?_
      first | refine OpsD.takeYes 14 rfl (by kernel_rfl) rfl rfl (by first | exact H | exact H.drop | exact H.drop.drop | exact H.dropL | exact H.drop.dropL | exact H.dropL.drop | exact H.dropL.dropL | exact H.dropMid) (fun w H => hashEq s.2 h rfl rfl) rfl ?_ | refine OpsD.takeNo 14 rfl (by kernel_rfl) rfl rfl (by first | exact H | exact H.drop | exact H.drop.drop | exact H.dropL | exact H.drop.dropL | exact H.dropL.drop | exact H.dropL.dropL | exact H.dropMid) rfl ?_ | refine OpsD.takeOff 14 rfl (by kernel_rfl) rfl rfl (by first | exact H | exact H.drop | exact H.drop.drop | exact H.dropL | exact H.drop.dropL | exact H.dropL.drop | exact H.dropL.dropL | exact H.dropMid) rfl ?_
      refine OpsD.take 15 rfl (by kernel_rfl) (by first | exact H | exact H.drop | exact H.drop.drop | exact H.dropL | exact H.drop.dropL | exact H.dropL.drop | exact H.dropL.dropL | exact H.dropMid) (fun w H => (by first | exact Ev.pickT rfl rfl | exact Ev.pickF rfl rfl)) rfl ?_
      refine OpsD.done (by kernel_rfl) ?_
      by_cases h3 : s.2 = h
      · repeat refine RunsE.seq ?_
        refine RunsE.yes (congrArg (fun r => some (Value.bool r)) (decide_eq_true h3)) ?_
        repeat (first | refine RunsE.seq ?_ | refine RunsE.skip ?_ | refine RunsE.block ?_ | refine RunsE.inBlock ?_ | refine RunsE.yes rfl ?_ | refine RunsE.no rfl ?_ | refine RunsE.exit rfl ?_)
        refine RunsE.region ?_
        refine OpsE.ev (Ev.assign rfl) rfl ?_
        refine OpsE.nil ?_
        repeat (first | refine RunsE.seq ?_ | refine RunsE.skip ?_ | refine RunsE.block ?_ | refine RunsE.inBlock ?_ | refine RunsE.yes rfl ?_ | refine RunsE.no rfl ?_ | refine RunsE.exit rfl ?_)
        have e1 : hasZ L z h = true := hasZ_iff.2 ⟨s, List.mem_of_getElem? hs, h2, h3⟩
        exact RunsE.ret1 Tryd.func22 rfl rfl ⟨by rw [e1], H.drop⟩
      · repeat refine RunsE.seq ?_
        refine RunsE.no (congrArg (fun r => some (Value.bool r)) (decide_eq_false h3)) ?_
        refine RunsE.skip ?_
        refine RunsE.inBlock ?_
        repeat (first | refine RunsE.seq ?_ | refine RunsE.skip ?_ | refine RunsE.block ?_ | refine RunsE.inBlock ?_ | refine RunsE.yes rfl ?_ | refine RunsE.no rfl ?_ | refine RunsE.exit rfl ?_)
        refine RunsE.region ?_
        refine OpsE.ev (Ev.move rfl) rfl ?_
        refine OpsE.ev (Ev.add rfl rfl) rfl ?_
        refine OpsE.ev (Ev.assign rfl) rfl ?_
        refine OpsE.nil ?_
        exact nextL (i + 1) _ _ (by omega) ⟨by omega, by rw [htk]; simp [h3], H⟩ ⟨rfl, rfl, rfl, rfl, trivial⟩
    ·
      repeat (first | refine RunsE.seq ?_ | refine RunsE.skip ?_ | refine RunsE.block ?_ | refine RunsE.inBlock ?_ | refine RunsE.yes rfl ?_ | refine RunsE.no rfl ?_ | refine RunsE.exit rfl ?_)
      refine RunsE.drawS H [] (by kernel_rfl) ?_; (try clear H); intro w H
      refine OpsD.take 0 rfl (by kernel_rfl) (by first | exact H | exact H.drop | exact H.drop.drop | exact H.dropL | exact H.drop.dropL | exact H.dropL.drop | exact H.dropL.dropL | exact H.dropMid) (fun w H => Ev.move rfl) rfl ?_
      refine OpsD.take 1 rfl (by kernel_rfl) (by first | exact H | exact H.drop | exact H.drop.drop | exact H.dropL | exact H.drop.dropL | exact H.dropL.drop | exact H.dropL.dropL | exact H.dropMid) (fun w H => Ev.move rfl) rfl ?_
      refine OpsD.take 2 rfl (by kernel_rfl) (by first | exact H | exact H.drop | exact H.drop.drop | exact H.dropL | exact H.drop.dropL | exact H.dropL.drop | exact H.dropL.dropL | exact H.dropMid) (fun w H => Ev.iaSl (n := 40) (sz := 33) (m := i) (o := off + i * 33) rfl rfl rfl (by kernel_rfl) (by omega)) rfl ?_
      refine OpsD.take 3 rfl (by kernel_rfl) (by first | exact H | exact H.drop | exact H.drop.drop | exact H.dropL | exact H.drop.dropL | exact H.dropL.drop | exact H.dropL.dropL | exact H.dropMid) (fun w H => Ev.fieldAddr (o := 0) rfl (by kernel_rfl)) rfl ?_
      refine OpsD.take 4 rfl (by kernel_rfl) (by first | exact H | exact H.drop | exact H.drop.drop | exact H.dropL | exact H.drop.dropL | exact H.dropL.drop | exact H.dropL.dropL | exact H.dropMid) (fun w H => Ev.load (v := .int .i64 (s.1 : Int)) H rfl (by kernel_rfl) (hrd 0 _ rfl).tail) rfl ?_
      refine OpsD.take 5 rfl (by kernel_rfl) (by first | exact H | exact H.drop | exact H.drop.drop | exact H.dropL | exact H.drop.dropL | exact H.dropL.drop | exact H.dropL.dropL | exact H.dropMid) (fun w H => Ev.move rfl) rfl ?_
      refine OpsD.take 6 rfl (by kernel_rfl) (by first | exact H | exact H.drop | exact H.drop.drop | exact H.dropL | exact H.drop.dropL | exact H.dropL.drop | exact H.dropL.dropL | exact H.dropMid) (fun w H => Ev.eql (r := false) rfl rfl (beq_eq_false_iff_ne.2 h2)) rfl ?_
      refine OpsD.take 7 rfl (by kernel_rfl) (by first | exact H | exact H.drop | exact H.drop.drop | exact H.dropL | exact H.drop.dropL | exact H.dropL.drop | exact H.dropL.dropL | exact H.dropMid) (fun w H => Ev.move rfl) rfl ?_
      first | refine OpsD.takeYes 8 rfl (by kernel_rfl) rfl rfl (by first | exact H | exact H.drop | exact H.drop.drop | exact H.dropL | exact H.drop.dropL | exact H.dropL.drop | exact H.dropL.dropL | exact H.dropMid) (fun w H => Ev.move rfl) rfl ?_ | refine OpsD.takeNo 8 rfl (by kernel_rfl) rfl rfl (by first | exact H | exact H.drop | exact H.drop.drop | exact H.dropL | exact H.drop.dropL | exact H.dropL.drop | exact H.dropL.dropL | exact H.dropMid) rfl ?_ | refine OpsD.takeOff 8 rfl (by kernel_rfl) rfl rfl (by first | exact H | exact H.drop | exact H.drop.drop | exact H.dropL | exact H.drop.dropL | exact H.dropL.drop | exact H.dropL.dropL | exact H.dropMid) rfl ?_
      first | refine OpsD.takeYes 9 rfl (by kernel_rfl) rfl rfl (by first | exact H | exact H.drop | exact H.drop.drop | exact H.dropL | exact H.drop.dropL | exact H.dropL.drop | exact H.dropL.dropL | exact H.dropMid) (fun w H => Ev.move rfl) rfl ?_ | refine OpsD.takeNo 9 rfl (by kernel_rfl) rfl rfl (by first | exact H | exact H.drop | exact H.drop.drop | exact H.dropL | exact H.drop.dropL | exact H.dropL.drop | exact H.dropL.dropL | exact H.dropMid) rfl ?_ | refine OpsD.takeOff 9 rfl (by kernel_rfl) rfl rfl (by first | exact H | exact H.drop | exact H.drop.drop | exact H.dropL | exact H.drop.dropL | exact H.dropL.drop | exact H.dropL.dropL | exact H.dropMid) rfl ?_
      first | refine OpsD.takeYes 10 rfl (by kernel_rfl) rfl rfl (by first | exact H | exact H.drop | exact H.drop.drop | exact H.dropL | exact H.drop.dropL | exact H.dropL.drop | exact H.dropL.dropL | exact H.dropMid) (fun w H => Ev.iaSl (n := 40) (sz := 33) rfl rfl rfl (by kernel_rfl) (by omega)) rfl ?_ | refine OpsD.takeNo 10 rfl (by kernel_rfl) rfl rfl (by first | exact H | exact H.drop | exact H.drop.drop | exact H.dropL | exact H.drop.dropL | exact H.dropL.drop | exact H.dropL.dropL | exact H.dropMid) rfl ?_ | refine OpsD.takeOff 10 rfl (by kernel_rfl) rfl rfl (by first | exact H | exact H.drop | exact H.drop.drop | exact H.dropL | exact H.drop.dropL | exact H.dropL.drop | exact H.dropL.dropL | exact H.dropMid) rfl ?_
      first | refine OpsD.takeYes 11 rfl (by kernel_rfl) rfl rfl (by first | exact H | exact H.drop | exact H.drop.drop | exact H.dropL | exact H.drop.dropL | exact H.dropL.drop | exact H.dropL.dropL | exact H.dropMid) (fun w H => Ev.fieldAddr (o := 1) rfl (by kernel_rfl)) rfl ?_ | refine OpsD.takeNo 11 rfl (by kernel_rfl) rfl rfl (by first | exact H | exact H.drop | exact H.drop.drop | exact H.dropL | exact H.drop.dropL | exact H.dropL.drop | exact H.dropL.dropL | exact H.dropMid) rfl ?_ | refine OpsD.takeOff 11 rfl (by kernel_rfl) rfl rfl (by first | exact H | exact H.drop | exact H.drop.drop | exact H.dropL | exact H.drop.dropL | exact H.dropL.drop | exact H.dropL.dropL | exact H.dropMid) rfl ?_
      first | refine OpsD.takeYes 12 rfl (by kernel_rfl) rfl rfl (by first | exact H | exact H.drop | exact H.drop.drop | exact H.dropL | exact H.drop.dropL | exact H.dropL.drop | exact H.dropL.dropL | exact H.dropMid) (fun w H => Ev.loadBlk (n := 32) H rfl (by kernel_rfl) (by first | rfl | simp) (by first | exact m0 | exact m1 | exact m2 | exact m3 | assumption)) rfl ?_ | refine OpsD.takeNo 12 rfl (by kernel_rfl) rfl rfl (by first | exact H | exact H.drop | exact H.drop.drop | exact H.dropL | exact H.drop.dropL | exact H.dropL.drop | exact H.dropL.dropL | exact H.dropMid) rfl ?_ | refine OpsD.takeOff 12 rfl (by kernel_rfl) rfl rfl (by first | exact H | exact H.drop | exact H.drop.drop | exact H.dropL | exact H.drop.dropL | exact H.dropL.drop | exact H.dropL.dropL | exact H.dropMid) rfl ?_
      first | refine OpsD.takeYes 13 rfl (by kernel_rfl) rfl rfl (by first | exact H | exact H.drop | exact H.drop.drop | exact H.dropL | exact H.drop.dropL | exact H.dropL.drop | exact H.dropL.dropL | exact H.dropMid) (fun w H => Ev.loadBlk (n := 32) H rfl (by kernel_rfl) (by first | rfl | simp) (by first | exact m0 | exact m1 | exact m2 | exact m3 | assumption)) rfl ?_ | refine OpsD.takeNo 13 rfl (by kernel_rfl) rfl rfl (by first | exact H | exact H.drop | exact H.drop.drop | exact H.dropL | exact H.drop.dropL | exact H.dropL.drop | exact H.dropL.dropL | exact H.dropMid) rfl ?_ | refine OpsD.takeOff 13 rfl (by kernel_rfl) rfl rfl (by first | exact H | exact H.drop | exact H.drop.drop | exact H.dropL | exact H.drop.dropL | exact H.dropL.drop | exact H.dropL.dropL | exact H.dropMid) rfl ?_
      first | refine OpsD.takeYes 14 rfl (by kernel_rfl) rfl rfl (by first | exact H | exact H.drop | exact H.drop.drop | exact H.dropL | exact H.drop.dropL | exact H.dropL.drop | exact H.dropL.dropL | exact H.dropMid) (fun w H => (?op_binOp)) rfl ?_ | refine OpsD.takeNo 14 rfl (by kernel_rfl) rfl rfl (by first | exact H | exact H.drop | exact H.drop.drop | exact H.dropL | exact H.drop.dropL | exact H.dropL.drop | exact H.dropL.dropL | exact H.dropMid) rfl ?_ | refine OpsD.takeOff 14 rfl (by kernel_rfl) rfl rfl (by first | exact H | exact H.drop | exact H.drop.drop | exact H.dropL | exact H.drop.dropL | exact H.dropL.drop | exact H.dropL.dropL | exact H.dropMid) rfl ?_
      refine OpsD.take 15 rfl (by kernel_rfl) (by first | exact H | exact H.drop | exact H.drop.drop | exact H.dropL | exact H.drop.dropL | exact H.dropL.drop | exact H.dropL.dropL | exact H.dropMid) (fun w H => (by first | exact Ev.pickT rfl rfl | exact Ev.pickF rfl rfl)) rfl ?_
      refine OpsD.done (by kernel_rfl) ?_
      repeat refine RunsE.seq ?_
      refine RunsE.no rfl ?_
      refine RunsE.skip ?_
      refine RunsE.inBlock ?_
      repeat (first | refine RunsE.seq ?_ | refine RunsE.skip ?_ | refine RunsE.block ?_ | refine RunsE.inBlock ?_ | refine RunsE.yes rfl ?_ | refine RunsE.no rfl ?_ | refine RunsE.exit rfl ?_)
      refine RunsE.region ?_
      refine OpsE.ev (Ev.move rfl) rfl ?_
      refine OpsE.ev (Ev.add rfl rfl) rfl ?_
      refine OpsE.ev (Ev.assign rfl) rfl ?_
      refine OpsE.nil ?_
      exact nextL (i + 1) _ _ (by omega) ⟨by omega, by rw [htk]; simp [h2], H⟩ ⟨rfl, rfl, rfl, rfl, trivial⟩
  clear H
  rintro _ w ⟨hno, H⟩
  repeat (first | refine RunsE.seq ?_ | refine RunsE.skip ?_ | refine RunsE.block ?_ | refine RunsE.inBlock ?_ | refine RunsE.yes rfl ?_ | refine RunsE.no rfl ?_ | refine RunsE.exit rfl ?_)
  refine RunsE.region ?_
  refine OpsE.ev (Ev.assign rfl) rfl ?_
  refine OpsE.nil ?_
  repeat (first | refine RunsE.seq ?_ | refine RunsE.skip ?_ | refine RunsE.block ?_ | refine RunsE.inBlock ?_ | refine RunsE.yes rfl ?_ | refine RunsE.no rfl ?_ | refine RunsE.exit rfl ?_)
  exact RunsE.ret1 Tryd.func22 rfl rfl ⟨by rw [hno], H⟩

set_option maxHeartbeats 1000000 in
theorem radd_spec [Strm] (L : List Sg) (v : Value) (hL : L.length ≤ 500) (z : Int) (h : Hash) (w : World) (X G : List (Nat × Obj)) (hG : ∀ p ∈ G, p ∈ X) (hR : RefL G L v) (H : SL w X) :
    Does Tryd.prog 24 #[v, .int .i64 z, hV h.1] w fun r w' => ∃ B v', r = .tuple #[v', .int .i64 (errZ z : Int)] ∧ RefL (B ++ G) (addZ L z h) v' ∧ SL w' (B ++ X) := by
  obtain ⟨a, c, rfl, hc⟩ := hR.len
  cases hz : inZ z with
  | false =>
    have hz' := of_decide_eq_false hz
    have e1 : addZ L z h = L := by unfold addZ; rw [if_neg (by rw [hz]; simp)]
    have e2 : errZ z = 33 := by unfold errZ; rw [if_neg (by rw [hz]; simp)]
    rw [e1, e2]
    by_cases h1 : z < 0
    ·
      refine Does.intro (args := [_, _, _]) (e := [(0, _), (1, _), (2, _)]) Tryd.func24 rfl Tryd.ntmps24 rfl rfl ?_
      repeat (first | refine RunsE.seq ?_ | refine RunsE.skip ?_ | refine RunsE.block ?_ | refine RunsE.inBlock ?_ | refine RunsE.yes rfl ?_ | refine RunsE.no rfl ?_ | refine RunsE.exit rfl ?_)
      repeat (first | refine RunsE.seq ?_ | refine RunsE.skip ?_ | refine RunsE.block ?_ | refine RunsE.inBlock ?_ | refine RunsE.yes rfl ?_ | refine RunsE.no rfl ?_ | refine RunsE.exit rfl ?_)
      refine RunsE.region ?_
      refine OpsE.ex (Ex.box H rfl) rfl ?_; (try clear H); rintro _ w ⟨b5, rfl, H⟩; simp only [Value.cells] at H
      refine OpsE.ev (Ev.assign rfl) rfl ?_
      refine OpsE.ev (Ev.assign rfl) rfl ?_
      refine OpsE.nil ?_
      repeat (first | refine RunsE.seq ?_ | refine RunsE.skip ?_ | refine RunsE.block ?_ | refine RunsE.inBlock ?_ | refine RunsE.yes rfl ?_ | refine RunsE.no rfl ?_ | refine RunsE.exit rfl ?_)
      refine RunsE.region ?_
      refine OpsE.ev (Ev.move rfl) rfl ?_
      refine OpsE.ev (Ev.lss (r := true) rfl rfl (decide_eq_true h1)) rfl ?_
      refine OpsE.ev (Ev.move rfl) rfl ?_
      first | (refine OpsE.yes rfl rfl ?_; refine OpsE.ev (Ev.move rfl) rfl ?_) | refine OpsE.no rfl rfl rfl ?_ | refine OpsE.off rfl rfl rfl ?_
      first | (refine OpsE.yes rfl rfl ?_; refine OpsE.ev (Ev.gtr rfl rfl) rfl ?_) | refine OpsE.no rfl rfl rfl ?_ | refine OpsE.off rfl rfl rfl ?_
      refine OpsE.ev ((by first | exact Ev.pickT rfl rfl | exact Ev.pickF rfl rfl)) rfl ?_
      refine OpsE.nil ?_
      repeat (first | refine RunsE.seq ?_ | refine RunsE.skip ?_ | refine RunsE.block ?_ | refine RunsE.inBlock ?_ | refine RunsE.yes rfl ?_ | refine RunsE.no rfl ?_ | refine RunsE.exit rfl ?_)
      refine RunsE.region ?_
      refine OpsE.ev (Ev.move rfl) rfl ?_
      refine OpsE.ev (Ev.assign rfl) rfl ?_
      refine OpsE.ev (Ev.assign rfl) rfl ?_
      refine OpsE.nil ?_
      repeat (first | refine RunsE.seq ?_ | refine RunsE.skip ?_ | refine RunsE.block ?_ | refine RunsE.inBlock ?_ | refine RunsE.yes rfl ?_ | refine RunsE.no rfl ?_ | refine RunsE.exit rfl ?_)
      exact RunsE.ret2 Tryd.func24 rfl rfl rfl ⟨[], _, rfl, hR, H.drop⟩
    ·
      refine Does.intro (args := [_, _, _]) (e := [(0, _), (1, _), (2, _)]) Tryd.func24 rfl Tryd.ntmps24 rfl rfl ?_
      repeat (first | refine RunsE.seq ?_ | refine RunsE.skip ?_ | refine RunsE.block ?_ | refine RunsE.inBlock ?_ | refine RunsE.yes rfl ?_ | refine RunsE.no rfl ?_ | refine RunsE.exit rfl ?_)
      repeat (first | refine RunsE.seq ?_ | refine RunsE.skip ?_ | refine RunsE.block ?_ | refine RunsE.inBlock ?_ | refine RunsE.yes rfl ?_ | refine RunsE.no rfl ?_ | refine RunsE.exit rfl ?_)
      refine RunsE.region ?_
      refine OpsE.ex (Ex.box H rfl) rfl ?_; (try clear H); rintro _ w ⟨b5, rfl, H⟩; simp only [Value.cells] at H
      refine OpsE.ev (Ev.assign rfl) rfl ?_
      refine OpsE.ev (Ev.assign rfl) rfl ?_
      refine OpsE.nil ?_
      repeat (first | refine RunsE.seq ?_ | refine RunsE.skip ?_ | refine RunsE.block ?_ | refine RunsE.inBlock ?_ | refine RunsE.yes rfl ?_ | refine RunsE.no rfl ?_ | refine RunsE.exit rfl ?_)
      refine RunsE.region ?_
      refine OpsE.ev (Ev.move rfl) rfl ?_
      refine OpsE.ev (Ev.lss (r := false) rfl rfl (decide_eq_false h1)) rfl ?_
      refine OpsE.ev (Ev.move rfl) rfl ?_
      first | (refine OpsE.yes rfl rfl ?_; refine OpsE.ev (Ev.move rfl) rfl ?_) | refine OpsE.no rfl rfl rfl ?_ | refine OpsE.off rfl rfl rfl ?_
      first | (refine OpsE.yes rfl rfl ?_; refine OpsE.ev (Ev.gtr (r := true) rfl rfl (decide_eq_true (by omega))) rfl ?_) | refine OpsE.no rfl rfl rfl ?_ | refine OpsE.off rfl rfl rfl ?_
      refine OpsE.ev ((by first | exact Ev.pickT rfl rfl | exact Ev.pickF rfl rfl)) rfl ?_
      refine OpsE.nil ?_
      repeat (first | refine RunsE.seq ?_ | refine RunsE.skip ?_ | refine RunsE.block ?_ | refine RunsE.inBlock ?_ | refine RunsE.yes rfl ?_ | refine RunsE.no rfl ?_ | refine RunsE.exit rfl ?_)
      refine RunsE.region ?_
      refine OpsE.ev (Ev.move rfl) rfl ?_
      refine OpsE.ev (Ev.assign rfl) rfl ?_
      refine OpsE.ev (Ev.assign rfl) rfl ?_
      refine OpsE.nil ?_
      repeat (first | refine RunsE.seq ?_ | refine RunsE.skip ?_ | refine RunsE.block ?_ | refine RunsE.inBlock ?_ | refine RunsE.yes rfl ?_ | refine RunsE.no rfl ?_ | refine RunsE.exit rfl ?_)
      exact RunsE.ret2 Tryd.func24 rfl rfl rfl ⟨[], _, rfl, hR, H.drop⟩
  | true =>
    have hz' := of_decide_eq_true hz
    have e2 : errZ z = 0 := by unfold errZ; rw [if_pos hz]
    rw [e2]
    refine Does.intro (args := [_, _, _]) (e := [(0, _), (1, _), (2, _)]) Tryd.func24 rfl Tryd.ntmps24 rfl rfl ?_
    repeat (first | refine RunsE.seq ?_ | refine RunsE.skip ?_ | refine RunsE.block ?_ | refine RunsE.inBlock ?_ | refine RunsE.yes rfl ?_ | refine RunsE.no rfl ?_ | refine RunsE.exit rfl ?_)
    repeat (first | refine RunsE.seq ?_ | refine RunsE.skip ?_ | refine RunsE.block ?_ | refine RunsE.inBlock ?_ | refine RunsE.yes rfl ?_ | refine RunsE.no rfl ?_ | refine RunsE.exit rfl ?_)
    refine RunsE.region ?_
    refine OpsE.ex (Ex.box H rfl) rfl ?_; (try clear H); rintro _ w ⟨b5, rfl, H⟩; simp only [Value.cells] at H
    refine OpsE.ev (Ev.assign rfl) rfl ?_
    refine OpsE.ev (Ev.assign rfl) rfl ?_
    refine OpsE.nil ?_
    repeat (first | refine RunsE.seq ?_ | refine RunsE.skip ?_ | refine RunsE.block ?_ | refine RunsE.inBlock ?_ | refine RunsE.yes rfl ?_ | refine RunsE.no rfl ?_ | refine RunsE.exit rfl ?_)
    refine RunsE.region ?_
    refine OpsE.ev (Ev.move rfl) rfl ?_
    refine OpsE.ev (Ev.lss (r := false) rfl rfl (decide_eq_false (by omega))) rfl ?_
    refine OpsE.ev (Ev.move rfl) rfl ?_
    first | (refine OpsE.yes rfl rfl ?_; refine OpsE.ev (Ev.move rfl) rfl ?_) | refine OpsE.no rfl rfl rfl ?_ | refine OpsE.off rfl rfl rfl ?_
    first | (refine OpsE.yes rfl rfl ?_; refine OpsE.ev (Ev.gtr (r := false) rfl rfl (decide_eq_false (by omega))) rfl ?_) | refine OpsE.no rfl rfl rfl ?_ | refine OpsE.off rfl rfl rfl ?_
    refine OpsE.ev ((by first | exact Ev.pickT rfl rfl | exact Ev.pickF rfl rfl)) rfl ?_
    refine OpsE.nil ?_
    repeat (first | refine RunsE.seq ?_ | refine RunsE.skip ?_ | refine RunsE.block ?_ | refine RunsE.inBlock ?_ | refine RunsE.yes rfl ?_ | refine RunsE.no rfl ?_ | refine RunsE.exit rfl ?_)
    repeat (first | refine RunsE.seq ?_ | refine RunsE.skip ?_ | refine RunsE.block ?_ | refine RunsE.inBlock ?_ | refine RunsE.yes rfl ?_ | refine RunsE.no rfl ?_ | refine RunsE.exit rfl ?_)
    refine RunsE.region ?_
    refine OpsE.ev (Ev.move rfl) rfl ?_
    refine OpsE.ev (Ev.move rfl) rfl ?_
    refine OpsE.ev (Ev.loadBlk (n := 32) (vs := gH h) H rfl (by kernel_rfl) (gH_len h) m0) rfl ?_
    refine OpsE.ex (Ex.call rfl Tryd.call22 (rhas_spec L _ (by omega) z h w _ (hR.sub fun p hp => .tail _ (hG p hp)) H)) rfl ?_; (try clear H); rintro _ w ⟨rfl, H⟩
    refine OpsE.nil ?_
    cases hh : hasZ L z h with
    | true =>
      have e1 : addZ L z h = L := by unfold addZ; rw [if_neg (by rw [hh]; simp)]
      rw [e1]
      repeat refine RunsE.seq ?_
      refine RunsE.yes rfl ?_
      repeat (first | refine RunsE.seq ?_ | refine RunsE.skip ?_ | refine RunsE.block ?_ | refine RunsE.inBlock ?_ | refine RunsE.yes rfl ?_ | refine RunsE.no rfl ?_ | refine RunsE.exit rfl ?_)
      refine RunsE.region ?_
      refine OpsE.ev (Ev.move rfl) rfl ?_
      refine OpsE.ev (Ev.assign rfl) rfl ?_
      refine OpsE.ev (Ev.assign rfl) rfl ?_
      refine OpsE.nil ?_
      repeat (first | refine RunsE.seq ?_ | refine RunsE.skip ?_ | refine RunsE.block ?_ | refine RunsE.inBlock ?_ | refine RunsE.yes rfl ?_ | refine RunsE.no rfl ?_ | refine RunsE.exit rfl ?_)
      exact RunsE.ret2 Tryd.func24 rfl rfl rfl ⟨[], _, rfl, hR, H.drop⟩
    | false =>
      have e1 : addZ L z h = L ++ [(z.toNat, h)] := by unfold addZ; rw [if_pos ⟨hz, hh⟩]
      have hzn : ((z.toNat : Nat) : Int) = z := by omega
      have e3 : [(z.toNat, h)].flatMap gG = .int .i64 z :: gH h := by simp [hzn]
      rw [e1]
      repeat refine RunsE.seq ?_
      refine RunsE.no rfl ?_
      refine RunsE.skip ?_
      repeat (first | refine RunsE.seq ?_ | refine RunsE.skip ?_ | refine RunsE.block ?_ | refine RunsE.inBlock ?_ | refine RunsE.yes rfl ?_ | refine RunsE.no rfl ?_ | refine RunsE.exit rfl ?_)
      refine RunsE.drawS H [10] (by kernel_rfl) ?_; (try clear H); intro w H
      refine OpsD.take 0 rfl (by kernel_rfl) (by first | exact H | exact H.drop | exact H.drop.drop | exact H.dropL | exact H.drop.dropL | exact H.dropL.drop | exact H.dropL.dropL | exact H.dropMid) (fun w H => Ev.move rfl) rfl ?_
      refine OpsD.take 1 rfl (by kernel_rfl) (by first | exact H | exact H.drop | exact H.drop.drop | exact H.dropL | exact H.drop.dropL | exact H.dropL.drop | exact H.dropL.dropL | exact H.dropMid) (fun w H => Ev.move rfl) rfl ?_
      refine OpsD.take 2 rfl (by kernel_rfl) (by first | exact H | exact H.drop | exact H.drop.drop | exact H.dropL | exact H.drop.dropL | exact H.dropL.drop | exact H.dropL.dropL | exact H.dropMid) (fun w H => Ev.lenSl (d := 40) rfl rfl (by kernel_rfl)) rfl ?_
      refine OpsD.take 3 rfl (by kernel_rfl) (by first | exact H | exact H.drop | exact H.drop.drop | exact H.dropL | exact H.drop.dropL | exact H.dropL.drop | exact H.dropL.dropL | exact H.dropMid) (fun w H => Ev.move rfl) rfl ?_
      refine OpsD.take 4 rfl (by kernel_rfl) (by first | exact H | exact H.drop | exact H.drop.drop | exact H.dropL | exact H.drop.dropL | exact H.dropL.drop | exact H.dropL.dropL | exact H.dropMid) (fun w H => Ev.lenSl (d := 40) rfl rfl (by kernel_rfl)) rfl ?_
      refine OpsD.take 5 rfl (by kernel_rfl) (by first | exact H | exact H.drop | exact H.drop.drop | exact H.dropL | exact H.drop.dropL | exact H.dropL.drop | exact H.dropL.dropL | exact H.dropMid) (fun w H => Ev.slCap (el := 40) (sz := 33) rfl (by kernel_rfl) rfl rfl hc) rfl ?_
      refine OpsD.take 6 rfl (by kernel_rfl) (by first | exact H | exact H.drop | exact H.drop.drop | exact H.dropL | exact H.drop.dropL | exact H.dropL.drop | exact H.dropL.dropL | exact H.dropMid) (fun w H => Ev.move rfl) rfl ?_
      refine OpsD.take 7 rfl (by kernel_rfl) (by first | exact H | exact H.drop | exact H.drop.drop | exact H.dropL | exact H.drop.dropL | exact H.dropL.drop | exact H.dropL.dropL | exact H.dropMid) (fun w H => Ev.loadBlk (n := 32) (vs := gH h) H rfl (by kernel_rfl) (gH_len h) m0) rfl ?_
      refine OpsD.take 8 rfl (by kernel_rfl) (by first | exact H | exact H.drop | exact H.drop.drop | exact H.dropL | exact H.drop.dropL | exact H.dropL.drop | exact H.dropL.dropL | exact H.dropMid) (fun w H => Ev.buildSg (z := z) (h := h) rfl rfl (by kernel_rfl) (by kernel_rfl)) rfl ?_
      refine OpsD.one 9 (by kernel_rfl) (StepD.ex rfl (Ex.buildOne (sz := 33) (cs := .int .i64 z :: gH h) (T := 40) (zv := .agg (.int .i64 0 :: List.replicate 32 (.int .u8 0)).toArray) H rfl (by kernel_rfl) (by kernel_rfl) (by rw [List.length_cons, gH_len]) (by omega) (by omega)) rfl ?_); (try clear H); rintro _ w ⟨b29, rfl, H⟩; refine ⟨(by first | exact H | exact H.drop | exact H.drop.drop | exact H.dropL | exact H.drop.dropL | exact H.dropL.drop | exact H.dropL.dropL | exact H.dropMid), ?_⟩
      refine OpsD.one 10 (by kernel_rfl) (StepD.exT rfl rfl (Ex.appendNew (T := 40) (g := gG) (sz := 33) (by_ := 40) (zv := .agg (.int .i64 0 :: List.replicate 32 (.int .u8 0)).toArray) (xs := L) (ys := [(z.toNat, h)]) (a := a) (cap := L.length) H rfl rfl (hR.capped.sub fun p hp => .tail _ (.tail _ (hG p hp))) (by rw [e3]; exact Src.row0 H m0 (by rw [List.length_cons, gH_len])) (by simp only [List.length_singleton]; omega) gG_len (by kernel_rfl) (by kernel_rfl) (by kernel_rfl) (by kernel_rfl) rfl (by simp only [List.length_singleton]; omega) (by simp only [List.length_singleton]; omega)) rfl ?_); (try clear H); rintro v' w ⟨B, hs, H⟩
      refine OpsD.takeU 11 rfl (by kernel_rfl) (fun w => Ev.assign rfl) rfl ?_
      refine OpsD.takeU 12 rfl (by kernel_rfl) (fun w => Ev.assign rfl) rfl ?_
      refine OpsD.done (by kernel_rfl) ?_
      repeat (first | refine RunsE.seq ?_ | refine RunsE.skip ?_ | refine RunsE.block ?_ | refine RunsE.inBlock ?_ | refine RunsE.yes rfl ?_ | refine RunsE.no rfl ?_ | refine RunsE.exit rfl ?_)
      exact RunsE.ret2 Tryd.func24 rfl rfl rfl ⟨B, v', rfl, hs.rdS gG_len, H.dropMid.dropMid⟩

end Go.Proofs.YtniihnncgblocaaDoor
