/-
  The proof's parts, in one file: ShZ3, ShZ4.
-/
import Derived.Test.YtflfaiakenahlaaGreatDoorM9

section
/-
  The document's Set, walked.
-/
namespace Go.Proofs.YtflfaiakenahlaaGreatDoor.V

/-- What is left to do of the changes: of each key the last one that changes something. -/
def restM (l : List Lf) (r : List Ch) (acc : List Ch) : List Ch := ((lastsM r).filter fun x => !sameM l x).foldl (insK Ch.key) acc

theorem restM_cons (l : List Lf) (x : Ch) (r acc : List Ch) :
    restM l (x :: r) acc = if (r.any fun y => decide (y.key = x.key)) = true ∨ sameM l x = true then restM l r acc else restM l r (insK Ch.key acc x) := by
  unfold restM
  conv => lhs; unfold lastsM
  by_cases h : (r.any fun y => decide (y.key = x.key)) = true
  · rw [if_pos h, if_pos (.inl h)]
  · rw [if_neg h]
    by_cases h2 : sameM l x = true
    · rw [if_pos (.inr h2), List.filter_cons, h2]; rfl
    · rw [if_neg (by rintro (h3 | h3) <;> contradiction)]
      rw [Bool.not_eq_true] at h2
      rw [List.filter_cons, h2]; rfl

theorem restM_len (l : List Lf) : ∀ (r acc : List Ch), (restM l r acc).length ≤ acc.length + r.length
  | [], acc => by simp [restM, lastsM]
  | x :: r, acc => by
    rw [restM_cons]
    split
    · have := restM_len l r acc; simp; omega
    · have := restM_len l r (insK Ch.key acc x)
      rw [(insK_perm Ch.key acc x).length_eq] at this
      simp at this ⊢; omega

theorem any_snoc {α : Type} {l : List α} {i j : Nat} {x : α} (p : α → Bool) (h : l[j]? = some x) (hij : i ≤ j) : ((l.take (j + 1)).drop i).any p = (((l.take j).drop i).any p || p x) := by
  have hj : j < l.length := by
    rcases Nat.lt_or_ge j l.length with h2 | h2
    · exact h2
    · rw [List.getElem?_eq_none h2] at h; cases h
  have ht : l.take (j + 1) = l.take j ++ [x] := by rw [List.take_add_one, h]; rfl
  rw [ht, List.drop_append_of_le_length (by rw [List.length_take]; omega), List.any_append]
  simp

/-- The free places from one on. -/
def frM (l : List Lf) (count n : Nat) : List Nat := (List.range' n (count - n)).filter fun p => !(l.any fun y => decide (y.place = p))

theorem frM_one (l : List Lf) (count : Nat) : frM l count 1 = freeM l count := rfl
theorem frM_end {l : List Lf} {count n : Nat} (h : count ≤ n) : frM l count n = [] := by
  unfold frM
  rw [show count - n = 0 by omega]
  rfl
theorem frM_step {l : List Lf} {count n : Nat} (h : n < count) : frM l count n = if (l.any fun y => decide (y.place = n)) then frM l count (n + 1) else n :: frM l count (n + 1) := by
  unfold frM
  rw [show count - n = (count - (n + 1)) + 1 by omega, List.range'_succ, List.filter_cons]
  cases (l.any fun y => decide (y.place = n)) <;> simp

theorem apply_gone {now : List Lf} {x : Ch} {r : List Ch} {fr : List Nat} (h : x.gone = true) : applyM now (x :: r) fr = applyM (delL now x.key) r fr := by
  conv => lhs; unfold applyM
  rw [if_pos h]
theorem apply_laid {now : List Lf} {x : Ch} {r : List Ch} {p : Nat} {fr : List Nat} (h : x.gone = false) : applyM now (x :: r) (p :: fr) = applyM (insK Lf.key (delL now x.key) ⟨x.key, x.val, p⟩) r fr := by
  conv => lhs; unfold applyM
  rw [if_neg (by rw [h]; decide)]
  rfl

theorem delL_len (l : List Lf) (k : List UInt8) : (delL l k).length ≤ l.length := List.length_filter_le _ _

theorem drop_some {α : Type} {l : List α} {i : Nat} {x : α} (h : l[i]? = some x) : l.drop i = x :: l.drop (i + 1) := by
  have hj : i < l.length := by
    rcases Nat.lt_or_ge i l.length with h2 | h2
    · exact h2
    · rw [List.getElem?_eq_none h2] at h; cases h
  rw [List.drop_eq_getElem_cons hj]
  rw [List.getElem?_eq_getElem hj] at h
  cases h
  rfl

theorem same_none {l : List Lf} {x : Ch} (h : findL l x.key = none) : sameM l x = x.gone := by unfold sameM; rw [h]
theorem same_some {l : List Lf} {x : Ch} {y : Lf} (h : findL l x.key = some y) : sameM l x = (!x.gone && decide (y.val = x.val)) := by unfold sameM; rw [h]

section
variable {P : Program} {e : Env} {w : World} {n f : Nat} {k : List Item} {Post : Value → World → Prop} {fn : Func}
theorem RunsE.ret4 {t t' t'' t3 : Nat} {v v' v'' v3 : Value} (hf : P.funcs[f]? = some fn) (hr : fn.results = #[.tmp t, .tmp t', .tmp t'', .tmp t3]) (ht : e.get t = some v) (ht' : e.get t' = some v')
    (ht'' : e.get t'' = some v'') (ht3 : e.get t3 = some v3) (h : Post (.tuple #[v, v', v'', v3]) w) : RunsE P ⟨f, none, []⟩ (fun e w' => ∃ v, e = .returned v ∧ Post v w') n (.code .ret :: k) e w := .of fun a ha =>
  .ret hf ha.defers (by simp [results, hr, ha.vals t v ht, ha.vals t' v' ht', ha.vals t'' v'' ht'', ha.vals t3 v3 ht3]) ⟨_, rfl, h⟩
end

end Go.Proofs.YtflfaiakenahlaaGreatDoor.V
namespace Go.Proofs.YtflfaiakenahlaaGreatDoor
open Go.Proofs.YtflfaiakenahlaaGreatDoor.V

set_option maxHeartbeats 4000000 in
theorem rset_spec [Strm] (l : List Lf) (count : Nat) (cs : List Ch) (vl vc : Value) (hok : OkL l count) (hc1 : 1 ≤ count) (hc : count ≤ 256) (hcl : cs.length ≤ 100) (hcs : ∀ c ∈ cs, c.key.length ≤ 100000 ∧ c.val.length ≤ 100000)
    (w : World) (X Y : List (Nat × Obj)) (hYX : ∀ q ∈ Y, q ∈ X) (hvl0 : LsAt Y vl l) (hvc : ElsA 3 (ChAt X) vc cs) (H : SL w X) :
    Does Tryz.prog 18 #[vl, .int .i64 (count : Int), vc] w fun r w' => ∃ v B, r = .tuple #[v, .int .i64 ((setM l count cs).2.1 : Int), .bool (setM l count cs).2.2.1, .int .i64 ((setM l count cs).2.2.2 : Int)] ∧ LsAt (B ++ Y) v (setM l count cs).1 ∧ SL w' (B ++ X) := by
  obtain ⟨al, cl, rfl, hcl2⟩ := hvl0.len
  have hvl : LsAt X (.slice al l.length cl) l := hvl0.sub hYX
  obtain ⟨ac, cc, rfl, hcc⟩ := hvc.len
  have hfl := free_len hok
  have hset : setM l count cs = setM l count cs := rfl
  conv at hset => rhs; unfold setM
  obtain ⟨R, hR⟩ : ∃ R, R = setM l count cs := ⟨_, rfl⟩
  rw [← hR] at hset ⊢
  clear hR
  have hch1 : restM l cs [] = changesM l cs := rfl
  have hchl := changes_len l cs
  have hchb : ∀ c ∈ changesM l cs, c.key.length ≤ 100000 ∧ c.val.length ≤ 100000 := fun c h => hcs c (changes_sub h)
  have hlay : ((changesM l cs).filter fun x => !x.gone).length ≤ (changesM l cs).length := List.length_filter_le _ _
  generalize changesM l cs = ch at *
  refine Does.intro (args := [_, _, _]) (e := [(0, _), (1, _), (2, _)]) Tryz.func18 rfl Tryz.ntmps18 rfl rfl ?_
  repeat (first | refine .seq ?_ | refine .skip ?_ | refine .block ?_ | refine .inBlock ?_ | refine .yes rfl ?_ | refine .no rfl ?_ | refine .exit rfl ?_)
  repeat (first | refine .seq ?_ | refine .skip ?_ | refine .block ?_ | refine .inBlock ?_ | refine .yes rfl ?_ | refine .no rfl ?_ | refine .exit rfl ?_)
  refine RunsE.region ?_
  refine OpsE.ev (Ev.assign rfl) rfl ?_
  refine OpsE.ev (Ev.assign rfl) rfl ?_
  refine OpsE.ev (Ev.assign rfl) rfl ?_
  refine OpsE.ev (Ev.assign rfl) rfl ?_
  refine OpsE.nil ?_
  repeat (first | refine .seq ?_ | refine .skip ?_ | refine .block ?_ | refine .inBlock ?_ | refine .yes rfl ?_ | refine .no rfl ?_ | refine .exit rfl ?_)
  refine RunsE.region ?_
  refine OpsE.ev (Ev.assign rfl) rfl ?_
  refine OpsE.nil ?_
  repeat (first | refine .seq ?_ | refine .skip ?_ | refine .block ?_ | refine .inBlock ?_ | refine .yes rfl ?_ | refine .no rfl ?_ | refine .exit rfl ?_)
  refine RunsE.region ?_
  refine OpsE.ev (Ev.assign rfl) rfl ?_
  refine OpsE.nil ?_
  repeat refine RunsE.seq ?_
  refine RunsE.join (fun v : Value => [(0, .slice al l.length cl), (1, .int .i64 (count : Int)), (10, v)])
    (fun v w => ∃ B, Slc gC 3 104 v ch B ∧ SL w (B ++ X)) (fun next => ?_) ?_
  · refine RunsE.block ?_
    refine RunsE.loop (fun s : Nat × Value × List Ch => [(0, .slice al l.length cl), (1, .int .i64 (count : Int)), (2, .slice ac cs.length cc), (10, s.2.1), (11, .int .i64 (s.1 : Int))])
      (fun s w => s.1 ≤ cs.length ∧ restM l (cs.drop s.1) s.2.2 = ch ∧ s.2.2.length ≤ s.1 ∧ ∃ B, Slc gC 3 104 s.2.1 s.2.2 B ∧ SL w (B ++ X)) (fun s => cs.length - s.1) (0, .slice none 0 0, []) ⟨rfl, rfl, rfl, rfl, rfl, trivial⟩ ⟨by omega, hch1, by simp, [], .nil, H⟩ ?_
    clear H hch1
    rintro ⟨i, v, acc⟩ w ⟨hi, hrest, hacl, B, hs, H⟩ nextL
    simp only at hi hrest hacl hs
    by_cases h1 : i = cs.length
    ·
      repeat (first | refine .seq ?_ | refine .skip ?_ | refine .block ?_ | refine .inBlock ?_ | refine .yes rfl ?_ | refine .no rfl ?_ | refine .exit rfl ?_)
      refine RunsE.region ?_
      refine OpsE.ev (Ev.move rfl) rfl ?_
      refine OpsE.ev (Ev.move rfl) rfl ?_
      refine OpsE.ev (Ev.lenSl (d := 104) rfl rfl (by kernel_rfl)) rfl ?_
      refine OpsE.ev (Ev.lss (r := false) rfl rfl (decide_eq_false (by simp only; omega))) rfl ?_
      refine OpsE.nil ?_
      repeat refine RunsE.seq ?_
      refine RunsE.no rfl ?_
      refine RunsE.exit rfl ?_
      rw [h1, List.drop_length] at hrest
      have e1 : acc = ch := hrest
      rw [e1] at hs
      exact next _ _ _ ⟨B, hs, H⟩ ⟨rfl, rfl, rfl, trivial⟩
    clear next
    have hil : i < cs.length := by omega
    obtain ⟨x, hx⟩ : ∃ x, cs[i]? = some x := ⟨cs[i], List.getElem?_eq_getElem hil⟩
    have hxb := hcs x (List.mem_of_getElem? hx)
    obtain ⟨bc, oc, rfl, hat⟩ := hvc.at hx
    rw [drop_some hx, restM_cons] at hrest
    repeat (first | refine .seq ?_ | refine .skip ?_ | refine .block ?_ | refine .inBlock ?_ | refine .yes rfl ?_ | refine .no rfl ?_ | refine .exit rfl ?_)
    refine RunsE.region ?_
    refine OpsE.ev (Ev.move rfl) rfl ?_
    refine OpsE.ev (Ev.move rfl) rfl ?_
    refine OpsE.ev (Ev.lenSl (d := 104) rfl rfl (by kernel_rfl)) rfl ?_
    refine OpsE.ev (Ev.lss (r := true) rfl rfl (decide_eq_true (by simp only; omega))) rfl ?_
    refine OpsE.nil ?_
    repeat (first | refine .seq ?_ | refine .skip ?_ | refine .block ?_ | refine .inBlock ?_ | refine .yes rfl ?_ | refine .no rfl ?_ | refine .exit rfl ?_)
    repeat (first | refine .seq ?_ | refine .skip ?_ | refine .block ?_ | refine .inBlock ?_ | refine .yes rfl ?_ | refine .no rfl ?_ | refine .exit rfl ?_)
    refine RunsE.region ?_
    refine OpsE.ev (Ev.assign rfl) rfl ?_
    refine OpsE.nil ?_
    repeat (first | refine .seq ?_ | refine .skip ?_ | refine .block ?_ | refine .inBlock ?_ | refine .yes rfl ?_ | refine .no rfl ?_ | refine .exit rfl ?_)
    refine RunsE.region ?_
    refine OpsE.ev (Ev.move rfl) rfl ?_
    refine OpsE.ev (Ev.add rfl rfl) rfl ?_
    refine OpsE.ev (Ev.assign rfl) rfl ?_
    refine OpsE.nil ?_
    repeat refine RunsE.seq ?_
    refine RunsE.join (fun _ : Unit => [(0, .slice al l.length cl), (1, .int .i64 (count : Int)), (2, .slice (some ⟨bc, oc, none⟩) cs.length cc), (10, v), (11, .int .i64 (i : Int)), (12, .bool (!((cs.drop (i + 1)).any fun y => decide (y.key = x.key))))])
      (fun _ w => SL w (B ++ X)) (fun next => ?_) ?_
    · refine RunsE.block ?_
      refine RunsE.loop (fun s : Nat × Bool => [(0, .slice al l.length cl), (1, .int .i64 (count : Int)), (2, .slice (some ⟨bc, oc, none⟩) cs.length cc), (10, v), (11, .int .i64 (i : Int)), (12, .bool s.2), (13, .int .i64 (s.1 : Int))])
        (fun s w => i + 1 ≤ s.1 ∧ s.1 ≤ cs.length ∧ s.2 = (!(((cs.take s.1).drop (i + 1)).any fun y => decide (y.key = x.key))) ∧ SL w (B ++ X)) (fun s => cs.length - s.1) (i + 1, true) ⟨rfl, rfl, rfl, rfl, rfl, rfl, rfl, trivial⟩
        ⟨by simp only; omega, by simp only; omega, by simp only; rw [List.drop_of_length_le (by rw [List.length_take]; omega)]; rfl, H⟩ ?_
      clear H nextL
      rintro ⟨j, lb⟩ w ⟨hj1, hj2, hlb, H⟩ nextL
      simp only at hj1 hj2 hlb
      by_cases h2 : j = cs.length
      ·
        repeat (first | refine .seq ?_ | refine .skip ?_ | refine .block ?_ | refine .inBlock ?_ | refine .yes rfl ?_ | refine .no rfl ?_ | refine .exit rfl ?_)
        refine RunsE.region ?_
        refine OpsE.ev (Ev.move rfl) rfl ?_
        refine OpsE.ev (Ev.move rfl) rfl ?_
        refine OpsE.ev (Ev.lenSl (d := 104) rfl rfl (by kernel_rfl)) rfl ?_
        refine OpsE.ev (Ev.lss (r := false) rfl rfl (decide_eq_false (by simp only; omega))) rfl ?_
        refine OpsE.nil ?_
        repeat refine RunsE.seq ?_
        refine RunsE.no rfl ?_
        refine RunsE.exit rfl ?_
        rw [h2, List.take_length] at hlb
        exact next () _ _ H ⟨rfl, rfl, rfl, rfl, rfl, by rw [← hlb]; rfl, trivial⟩
      clear next
      have hjl : j < cs.length := by omega
      obtain ⟨y, hy⟩ : ∃ y, cs[j]? = some y := ⟨cs[j], List.getElem?_eq_getElem hjl⟩
      obtain ⟨bc', oc', e0, haty⟩ := hvc.at hy
      cases e0
      have han := any_snoc (i := i + 1) (fun y : Ch => decide (y.key = x.key)) hy hj1
      cases lb with
      | false =>
        repeat (first | refine .seq ?_ | refine .skip ?_ | refine .block ?_ | refine .inBlock ?_ | refine .yes rfl ?_ | refine .no rfl ?_ | refine .exit rfl ?_)
        refine RunsE.region ?_
        refine OpsE.ev (Ev.move rfl) rfl ?_
        refine OpsE.ev (Ev.move rfl) rfl ?_
        refine OpsE.ev (Ev.lenSl (d := 104) rfl rfl (by kernel_rfl)) rfl ?_
        refine OpsE.ev (Ev.lss (r := true) rfl rfl (decide_eq_true (by simp only; omega))) rfl ?_
        refine OpsE.nil ?_
        repeat (first | refine .seq ?_ | refine .skip ?_ | refine .block ?_ | refine .inBlock ?_ | refine .yes rfl ?_ | refine .no rfl ?_ | refine .exit rfl ?_)
        repeat (first | refine .seq ?_ | refine .skip ?_ | refine .block ?_ | refine .inBlock ?_ | refine .yes rfl ?_ | refine .no rfl ?_ | refine .exit rfl ?_)
        refine RunsE.drawS H [14] (by kernel_rfl) ?_; (try clear H); intro w H
        refine OpsD.take 0 rfl (by kernel_rfl) H (fun w H => Ev.move rfl) rfl ?_
        refine OpsD.take 1 rfl (by kernel_rfl) H (fun w H => Ev.move rfl) rfl ?_
        first | refine OpsD.takeYes 2 rfl (by kernel_rfl) rfl rfl H (fun w H => Ev.move rfl) rfl ?_ | refine OpsD.takeNo 2 rfl (by kernel_rfl) rfl rfl H rfl ?_ | refine OpsD.takeOff 2 rfl (by kernel_rfl) rfl rfl H rfl ?_
        first | refine OpsD.takeYes 3 rfl (by kernel_rfl) rfl rfl H (fun w H => Ev.move rfl) rfl ?_ | refine OpsD.takeNo 3 rfl (by kernel_rfl) rfl rfl H rfl ?_ | refine OpsD.takeOff 3 rfl (by kernel_rfl) rfl rfl H rfl ?_
        first | refine OpsD.takeYes 4 rfl (by kernel_rfl) rfl rfl H (fun w H => Ev.iaSl (n := 104) (sz := 3) rfl rfl rfl (by kernel_rfl) (by omega)) rfl ?_ | refine OpsD.takeNo 4 rfl (by kernel_rfl) rfl rfl H rfl ?_ | refine OpsD.takeOff 4 rfl (by kernel_rfl) rfl rfl H rfl ?_
        first | refine OpsD.takeYes 5 rfl (by kernel_rfl) rfl rfl H (fun w H => Ev.fieldAddr (o := 0) rfl (by kernel_rfl)) rfl ?_ | refine OpsD.takeNo 5 rfl (by kernel_rfl) rfl rfl H rfl ?_ | refine OpsD.takeOff 5 rfl (by kernel_rfl) rfl rfl H rfl ?_
        first | refine OpsD.takeYes 6 rfl (by kernel_rfl) rfl rfl H (fun w H => Ev.load H rfl (by kernel_rfl) (by first | exact Rd.mk m0 rfl | exact Rd.mk m1 rfl | exact Rd.mk m2 rfl | exact Rd.mk m3 rfl | assumption)) rfl ?_ | refine OpsD.takeNo 6 rfl (by kernel_rfl) rfl rfl H rfl ?_ | refine OpsD.takeOff 6 rfl (by kernel_rfl) rfl rfl H rfl ?_
        first | refine OpsD.takeYes 7 rfl (by kernel_rfl) rfl rfl H (fun w H => Ev.move rfl) rfl ?_ | refine OpsD.takeNo 7 rfl (by kernel_rfl) rfl rfl H rfl ?_ | refine OpsD.takeOff 7 rfl (by kernel_rfl) rfl rfl H rfl ?_
        first | refine OpsD.takeYes 8 rfl (by kernel_rfl) rfl rfl H (fun w H => Ev.move rfl) rfl ?_ | refine OpsD.takeNo 8 rfl (by kernel_rfl) rfl rfl H rfl ?_ | refine OpsD.takeOff 8 rfl (by kernel_rfl) rfl rfl H rfl ?_
        first | refine OpsD.takeYes 9 rfl (by kernel_rfl) rfl rfl H (fun w H => Ev.iaSl (n := 104) (sz := 3) rfl rfl rfl (by kernel_rfl) (by omega)) rfl ?_ | refine OpsD.takeNo 9 rfl (by kernel_rfl) rfl rfl H rfl ?_ | refine OpsD.takeOff 9 rfl (by kernel_rfl) rfl rfl H rfl ?_
        first | refine OpsD.takeYes 10 rfl (by kernel_rfl) rfl rfl H (fun w H => Ev.fieldAddr (o := 0) rfl (by kernel_rfl)) rfl ?_ | refine OpsD.takeNo 10 rfl (by kernel_rfl) rfl rfl H rfl ?_ | refine OpsD.takeOff 10 rfl (by kernel_rfl) rfl rfl H rfl ?_
        first | refine OpsD.takeYes 11 rfl (by kernel_rfl) rfl rfl H (fun w H => Ev.load H rfl (by kernel_rfl) (by first | exact Rd.mk m0 rfl | exact Rd.mk m1 rfl | exact Rd.mk m2 rfl | exact Rd.mk m3 rfl | assumption)) rfl ?_ | refine OpsD.takeNo 11 rfl (by kernel_rfl) rfl rfl H rfl ?_ | refine OpsD.takeOff 11 rfl (by kernel_rfl) rfl rfl H rfl ?_
        first | refine OpsD.takeYes 12 rfl (by kernel_rfl) rfl rfl H (fun w H => (?op_binOp)) rfl ?_ | refine OpsD.takeNo 12 rfl (by kernel_rfl) rfl rfl H rfl ?_ | refine OpsD.takeOff 12 rfl (by kernel_rfl) rfl rfl H rfl ?_
        refine OpsD.take 13 rfl (by kernel_rfl) H (fun w H => (by first | exact Ev.pickT rfl rfl | exact Ev.pickF rfl rfl)) rfl ?_
        refine OpsD.one 14 (by kernel_rfl) (StepD.exT rfl rfl (Ev.ex (Ev.assign rfl)) rfl ?_); rintro _ _ ⟨rfl, rfl⟩
        refine OpsD.done (by kernel_rfl) ?_
        refine RunsE.inBlock ?_
        repeat (first | refine .seq ?_ | refine .skip ?_ | refine .block ?_ | refine .inBlock ?_ | refine .yes rfl ?_ | refine .no rfl ?_ | refine .exit rfl ?_)
        refine RunsE.region ?_
        refine OpsE.ev (Ev.move rfl) rfl ?_
        refine OpsE.ev (Ev.add rfl rfl) rfl ?_
        refine OpsE.ev (Ev.assign rfl) rfl ?_
        refine OpsE.nil ?_
        refine nextL (j + 1, false) _ _ (by simp only; omega) ⟨by simp only; omega, by simp only; omega, ?_, H⟩ ⟨rfl, rfl, rfl, rfl, rfl, rfl, rfl, trivial⟩
        simp only
        rw [han, Bool.not_or, ← hlb]
        rfl
      | true =>
        repeat (first | refine .seq ?_ | refine .skip ?_ | refine .block ?_ | refine .inBlock ?_ | refine .yes rfl ?_ | refine .no rfl ?_ | refine .exit rfl ?_)
        refine RunsE.region ?_
        refine OpsE.ev (Ev.move rfl) rfl ?_
        refine OpsE.ev (Ev.move rfl) rfl ?_
        refine OpsE.ev (Ev.lenSl (d := 104) rfl rfl (by kernel_rfl)) rfl ?_
        refine OpsE.ev (Ev.lss (r := true) rfl rfl (decide_eq_true (by simp only; omega))) rfl ?_
        refine OpsE.nil ?_
        repeat (first | refine .seq ?_ | refine .skip ?_ | refine .block ?_ | refine .inBlock ?_ | refine .yes rfl ?_ | refine .no rfl ?_ | refine .exit rfl ?_)
        repeat (first | refine .seq ?_ | refine .skip ?_ | refine .block ?_ | refine .inBlock ?_ | refine .yes rfl ?_ | refine .no rfl ?_ | refine .exit rfl ?_)
        refine RunsE.drawS H [14] (by kernel_rfl) ?_; (try clear H); intro w H
        refine OpsD.take 0 rfl (by kernel_rfl) H (fun w H => Ev.move rfl) rfl ?_
        refine OpsD.take 1 rfl (by kernel_rfl) H (fun w H => Ev.move rfl) rfl ?_
        first | refine OpsD.takeYes 2 rfl (by kernel_rfl) rfl rfl H (fun w H => Ev.move rfl) rfl ?_ | refine OpsD.takeNo 2 rfl (by kernel_rfl) rfl rfl H rfl ?_ | refine OpsD.takeOff 2 rfl (by kernel_rfl) rfl rfl H rfl ?_
        first | refine OpsD.takeYes 3 rfl (by kernel_rfl) rfl rfl H (fun w H => Ev.move rfl) rfl ?_ | refine OpsD.takeNo 3 rfl (by kernel_rfl) rfl rfl H rfl ?_ | refine OpsD.takeOff 3 rfl (by kernel_rfl) rfl rfl H rfl ?_
        first | refine OpsD.takeYes 4 rfl (by kernel_rfl) rfl rfl H (fun w H => Ev.iaSl (n := 104) (sz := 3) (m := j) (o := oc + j * 3) rfl rfl rfl (by kernel_rfl) hjl) rfl ?_ | refine OpsD.takeNo 4 rfl (by kernel_rfl) rfl rfl H rfl ?_ | refine OpsD.takeOff 4 rfl (by kernel_rfl) rfl rfl H rfl ?_
        first | refine OpsD.takeYes 5 rfl (by kernel_rfl) rfl rfl H (fun w H => Ev.fieldAddr (o := 0) (o' := oc + j * 3 + 0) rfl (by kernel_rfl) (by omega)) rfl ?_ | refine OpsD.takeNo 5 rfl (by kernel_rfl) rfl rfl H rfl ?_ | refine OpsD.takeOff 5 rfl (by kernel_rfl) rfl rfl H rfl ?_
        first | refine OpsD.takeYes 6 rfl (by kernel_rfl) rfl rfl H (fun w H => Ev.load (v := sV y.key) H rfl (by kernel_rfl) (haty 0 _ rfl).right) rfl ?_ | refine OpsD.takeNo 6 rfl (by kernel_rfl) rfl rfl H rfl ?_ | refine OpsD.takeOff 6 rfl (by kernel_rfl) rfl rfl H rfl ?_
        first | refine OpsD.takeYes 7 rfl (by kernel_rfl) rfl rfl H (fun w H => Ev.move rfl) rfl ?_ | refine OpsD.takeNo 7 rfl (by kernel_rfl) rfl rfl H rfl ?_ | refine OpsD.takeOff 7 rfl (by kernel_rfl) rfl rfl H rfl ?_
        first | refine OpsD.takeYes 8 rfl (by kernel_rfl) rfl rfl H (fun w H => Ev.move rfl) rfl ?_ | refine OpsD.takeNo 8 rfl (by kernel_rfl) rfl rfl H rfl ?_ | refine OpsD.takeOff 8 rfl (by kernel_rfl) rfl rfl H rfl ?_
        first | refine OpsD.takeYes 9 rfl (by kernel_rfl) rfl rfl H (fun w H => Ev.iaSl (n := 104) (sz := 3) (m := i) (o := oc + i * 3) rfl rfl rfl (by kernel_rfl) hil) rfl ?_ | refine OpsD.takeNo 9 rfl (by kernel_rfl) rfl rfl H rfl ?_ | refine OpsD.takeOff 9 rfl (by kernel_rfl) rfl rfl H rfl ?_
        first | refine OpsD.takeYes 10 rfl (by kernel_rfl) rfl rfl H (fun w H => Ev.fieldAddr (o := 0) (o' := oc + i * 3 + 0) rfl (by kernel_rfl) (by omega)) rfl ?_ | refine OpsD.takeNo 10 rfl (by kernel_rfl) rfl rfl H rfl ?_ | refine OpsD.takeOff 10 rfl (by kernel_rfl) rfl rfl H rfl ?_
        first | refine OpsD.takeYes 11 rfl (by kernel_rfl) rfl rfl H (fun w H => Ev.load (v := sV x.key) H rfl (by kernel_rfl) (hat 0 _ rfl).right) rfl ?_ | refine OpsD.takeNo 11 rfl (by kernel_rfl) rfl rfl H rfl ?_ | refine OpsD.takeOff 11 rfl (by kernel_rfl) rfl rfl H rfl ?_
        first | refine OpsD.takeYes 12 rfl (by kernel_rfl) rfl rfl H (fun w H => Ev.strNeR (cs := y.key) (bs := x.key) rfl rfl rfl) rfl ?_ | refine OpsD.takeNo 12 rfl (by kernel_rfl) rfl rfl H rfl ?_ | refine OpsD.takeOff 12 rfl (by kernel_rfl) rfl rfl H rfl ?_
        refine OpsD.take 13 rfl (by kernel_rfl) H (fun w H => (by first | exact Ev.pickT rfl rfl | exact Ev.pickF rfl rfl)) rfl ?_
        refine OpsD.one 14 (by kernel_rfl) (StepD.exT rfl rfl (Ev.ex (Ev.assign rfl)) rfl ?_); rintro _ _ ⟨rfl, rfl⟩
        refine OpsD.done (by kernel_rfl) ?_
        refine RunsE.inBlock ?_
        repeat (first | refine .seq ?_ | refine .skip ?_ | refine .block ?_ | refine .inBlock ?_ | refine .yes rfl ?_ | refine .no rfl ?_ | refine .exit rfl ?_)
        refine RunsE.region ?_
        refine OpsE.ev (Ev.move rfl) rfl ?_
        refine OpsE.ev (Ev.add rfl rfl) rfl ?_
        refine OpsE.ev (Ev.assign rfl) rfl ?_
        refine OpsE.nil ?_
        refine nextL (j + 1, decide (y.key ≠ x.key)) _ _ (by simp only; omega) ⟨by simp only; omega, by simp only; omega, ?_, H⟩ ⟨rfl, rfl, rfl, rfl, rfl, rfl, rfl, trivial⟩
        simp only
        rw [han, Bool.not_or, ← hlb]
        simp
    clear H
    rintro _ w H
    repeat (first | refine .seq ?_ | refine .skip ?_ | refine .block ?_ | refine .inBlock ?_ | refine .yes rfl ?_ | refine .no rfl ?_ | refine .exit rfl ?_)
    refine RunsE.region ?_
    refine OpsE.ev (Ev.move rfl) rfl ?_
    refine OpsE.ev (Ev.move rfl) rfl ?_
    refine OpsE.ev (Ev.move rfl) rfl ?_
    refine OpsE.ev (Ev.iaSl (n := 104) (sz := 3) (m := i) (o := oc + i * 3) rfl rfl rfl (by kernel_rfl) hil) rfl ?_
    refine OpsE.ev (Ev.fieldAddr (o := 0) (o' := oc + i * 3 + 0) rfl (by kernel_rfl) (by omega)) rfl ?_
    refine OpsE.ev (Ev.load (v := sV x.key) H rfl (by kernel_rfl) (hat 0 _ rfl).right) rfl ?_
    refine OpsE.ex (Ex.call rfl Tryz.call45 (find_spec l x.key _ (by omega) w _ (hvl.sub fun q hq => List.mem_append_right _ hq) H)) rfl ?_; (try clear H); rintro _ w ⟨rfl, H⟩
    refine OpsE.ev (Ev.assign rfl) rfl ?_
    refine OpsE.nil ?_
    repeat refine RunsE.seq ?_
    refine RunsE.join (fun _ : Unit => [(0, .slice al l.length cl), (1, .int .i64 (count : Int)), (2, .slice (some ⟨bc, oc, none⟩) cs.length cc), (10, v), (11, .int .i64 (i : Int)), (12, .bool (!((cs.drop (i + 1)).any fun y => decide (y.key = x.key)))), (15, .bool (sameM l x))])
      (fun _ w => SL w (B ++ X)) (fun next => ?_) ?_
    · clear nextL
      by_cases hlt : findI l x.key < l.length
      · obtain ⟨y, hy⟩ : ∃ y, l[findI l x.key]? = some y := ⟨l[findI l x.key], List.getElem?_eq_getElem hlt⟩
        have hfy : findL l x.key = some y := by rw [find_at, hy]
        have hz : findZ l x.key = (findI l x.key : Int) := if_pos hlt
        obtain ⟨bl, ol, rfl, haty⟩ := hvl.elS gL_len hy
        obtain hg | hg : x.gone = true ∨ x.gone = false := by cases x.gone <;> simp
        · have hgl : Rd (B ++ X) ⟨bc, oc + i * 3 + 2, none⟩ (.bool true) := by
            have := (hat 2 _ rfl).right (A := B)
            rw [hg] at this
            exact this
          repeat (first | refine .seq ?_ | refine .skip ?_ | refine .block ?_ | refine .inBlock ?_ | refine .yes rfl ?_ | refine .no rfl ?_ | refine .exit rfl ?_)
          refine RunsE.drawS H [34] (by kernel_rfl) ?_; (try clear H); intro w H
          refine OpsD.take 0 rfl (by kernel_rfl) H (fun w H => Ev.move rfl) rfl ?_
          refine OpsD.take 1 rfl (by kernel_rfl) H (fun w H => Ev.move rfl) rfl ?_
          refine OpsD.take 2 rfl (by kernel_rfl) H (fun w H => Ev.iaSl (n := 104) (sz := 3) (m := i) (o := oc + i * 3) rfl rfl rfl (by kernel_rfl) hil) rfl ?_
          refine OpsD.take 3 rfl (by kernel_rfl) H (fun w H => Ev.fieldAddr (o := 2) (o' := oc + i * 3 + 2) rfl (by kernel_rfl) (by omega)) rfl ?_
          refine OpsD.take 4 rfl (by kernel_rfl) H (fun w H => Ev.load (v := .bool true) H rfl (by kernel_rfl) hgl) rfl ?_
          refine OpsD.take 5 rfl (by kernel_rfl) H (fun w H => Ev.move rfl) rfl ?_
          first | refine OpsD.takeYes 6 rfl (by kernel_rfl) rfl rfl H (fun w H => Ev.move rfl) rfl ?_ | refine OpsD.takeNo 6 rfl (by kernel_rfl) rfl rfl H rfl ?_ | refine OpsD.takeOff 6 rfl (by kernel_rfl) rfl rfl H rfl ?_
          first | refine OpsD.takeYes 7 rfl (by kernel_rfl) rfl rfl H (fun w H => Ev.lss (r := false) rfl rfl (by rw [hz]; exact decide_eq_false (by omega))) rfl ?_ | refine OpsD.takeNo 7 rfl (by kernel_rfl) rfl rfl H rfl ?_ | refine OpsD.takeOff 7 rfl (by kernel_rfl) rfl rfl H rfl ?_
          refine OpsD.take 8 rfl (by kernel_rfl) H (fun w H => (by first | exact Ev.pickT rfl rfl | exact Ev.pickF rfl rfl)) rfl ?_
          refine OpsD.take 9 rfl (by kernel_rfl) H (fun w H => Ev.move rfl) rfl ?_
          first | refine OpsD.takeYes 10 rfl (by kernel_rfl) rfl rfl H (fun w H => Ev.move rfl) rfl ?_ | refine OpsD.takeNo 10 rfl (by kernel_rfl) rfl rfl H rfl ?_ | refine OpsD.takeOff 10 rfl (by kernel_rfl) rfl rfl H rfl ?_
          first | refine OpsD.takeYes 11 rfl (by kernel_rfl) rfl rfl H (fun w H => Ev.move rfl) rfl ?_ | refine OpsD.takeNo 11 rfl (by kernel_rfl) rfl rfl H rfl ?_ | refine OpsD.takeOff 11 rfl (by kernel_rfl) rfl rfl H rfl ?_
          first | refine OpsD.takeYes 12 rfl (by kernel_rfl) rfl rfl H (fun w H => Ev.iaSl (n := 104) (sz := 3) (m := i) (o := oc + i * 3) rfl rfl rfl (by kernel_rfl) hil) rfl ?_ | refine OpsD.takeNo 12 rfl (by kernel_rfl) rfl rfl H rfl ?_ | refine OpsD.takeOff 12 rfl (by kernel_rfl) rfl rfl H rfl ?_
          first | refine OpsD.takeYes 13 rfl (by kernel_rfl) rfl rfl H (fun w H => Ev.fieldAddr (o := 2) (o' := oc + i * 3 + 2) rfl (by kernel_rfl) (by omega)) rfl ?_ | refine OpsD.takeNo 13 rfl (by kernel_rfl) rfl rfl H rfl ?_ | refine OpsD.takeOff 13 rfl (by kernel_rfl) rfl rfl H rfl ?_
          first | refine OpsD.takeYes 14 rfl (by kernel_rfl) rfl rfl H (fun w H => Ev.load (v := .bool true) H rfl (by kernel_rfl) hgl) rfl ?_ | refine OpsD.takeNo 14 rfl (by kernel_rfl) rfl rfl H rfl ?_ | refine OpsD.takeOff 14 rfl (by kernel_rfl) rfl rfl H rfl ?_
          first | refine OpsD.takeYes 15 rfl (by kernel_rfl) rfl rfl H (fun w H => Ev.not rfl) rfl ?_ | refine OpsD.takeNo 15 rfl (by kernel_rfl) rfl rfl H rfl ?_ | refine OpsD.takeOff 15 rfl (by kernel_rfl) rfl rfl H rfl ?_
          first | refine OpsD.takeYes 16 rfl (by kernel_rfl) rfl rfl H (fun w H => Ev.move rfl) rfl ?_ | refine OpsD.takeNo 16 rfl (by kernel_rfl) rfl rfl H rfl ?_ | refine OpsD.takeOff 16 rfl (by kernel_rfl) rfl rfl H rfl ?_
          first | refine OpsD.takeYes 17 rfl (by kernel_rfl) rfl rfl H (fun w H => Ev.move rfl) rfl ?_ | refine OpsD.takeNo 17 rfl (by kernel_rfl) rfl rfl H rfl ?_ | refine OpsD.takeOff 17 rfl (by kernel_rfl) rfl rfl H rfl ?_
          first | refine OpsD.takeYes 18 rfl (by kernel_rfl) rfl rfl H (fun w H => Ev.geq (r := true) rfl rfl (by rw [hz]; exact decide_eq_true (by omega))) rfl ?_ | refine OpsD.takeNo 18 rfl (by kernel_rfl) rfl rfl H rfl ?_ | refine OpsD.takeOff 18 rfl (by kernel_rfl) rfl rfl H rfl ?_
          first | refine OpsD.takeYes 19 rfl (by kernel_rfl) rfl rfl H (fun w H => (by first | exact Ev.pickT rfl rfl | exact Ev.pickF rfl rfl)) rfl ?_ | refine OpsD.takeNo 19 rfl (by kernel_rfl) rfl rfl H rfl ?_ | refine OpsD.takeOff 19 rfl (by kernel_rfl) rfl rfl H rfl ?_
          first | refine OpsD.takeYes 20 rfl (by kernel_rfl) rfl rfl H (fun w H => Ev.move rfl) rfl ?_ | refine OpsD.takeNo 20 rfl (by kernel_rfl) rfl rfl H rfl ?_ | refine OpsD.takeOff 20 rfl (by kernel_rfl) rfl rfl H rfl ?_
          first | refine OpsD.takeYes 21 rfl (by kernel_rfl) rfl rfl H (fun w H => Ev.move rfl) rfl ?_ | refine OpsD.takeNo 21 rfl (by kernel_rfl) rfl rfl H rfl ?_ | refine OpsD.takeOff 21 rfl (by kernel_rfl) rfl rfl H rfl ?_
          first | refine OpsD.takeYes 22 rfl (by kernel_rfl) rfl rfl H (fun w H => Ev.move rfl) rfl ?_ | refine OpsD.takeNo 22 rfl (by kernel_rfl) rfl rfl H rfl ?_ | refine OpsD.takeOff 22 rfl (by kernel_rfl) rfl rfl H rfl ?_
          first | refine OpsD.takeYes 23 rfl (by kernel_rfl) rfl rfl H (fun w H => Ev.iaSl (n := 64) (sz := 3) (m := findI l x.key) (o := ol + findI l x.key * 3) rfl rfl (by rw [hz]) (by kernel_rfl) hlt) rfl ?_ | refine OpsD.takeNo 23 rfl (by kernel_rfl) rfl rfl H rfl ?_ | refine OpsD.takeOff 23 rfl (by kernel_rfl) rfl rfl H rfl ?_
          first | refine OpsD.takeYes 24 rfl (by kernel_rfl) rfl rfl H (fun w H => Ev.fieldAddr (o := 1) (o' := ol + findI l x.key * 3 + 1) rfl (by kernel_rfl) (by omega)) rfl ?_ | refine OpsD.takeNo 24 rfl (by kernel_rfl) rfl rfl H rfl ?_ | refine OpsD.takeOff 24 rfl (by kernel_rfl) rfl rfl H rfl ?_
          first | refine OpsD.takeYes 25 rfl (by kernel_rfl) rfl rfl H (fun w H => Ev.load (v := sV y.val) H rfl (by kernel_rfl) (haty 1 _ rfl).right) rfl ?_ | refine OpsD.takeNo 25 rfl (by kernel_rfl) rfl rfl H rfl ?_ | refine OpsD.takeOff 25 rfl (by kernel_rfl) rfl rfl H rfl ?_
          first | refine OpsD.takeYes 26 rfl (by kernel_rfl) rfl rfl H (fun w H => Ev.move rfl) rfl ?_ | refine OpsD.takeNo 26 rfl (by kernel_rfl) rfl rfl H rfl ?_ | refine OpsD.takeOff 26 rfl (by kernel_rfl) rfl rfl H rfl ?_
          first | refine OpsD.takeYes 27 rfl (by kernel_rfl) rfl rfl H (fun w H => Ev.move rfl) rfl ?_ | refine OpsD.takeNo 27 rfl (by kernel_rfl) rfl rfl H rfl ?_ | refine OpsD.takeOff 27 rfl (by kernel_rfl) rfl rfl H rfl ?_
          first | refine OpsD.takeYes 28 rfl (by kernel_rfl) rfl rfl H (fun w H => Ev.iaSl (n := 104) (sz := 3) (m := i) (o := oc + i * 3) rfl rfl rfl (by kernel_rfl) hil) rfl ?_ | refine OpsD.takeNo 28 rfl (by kernel_rfl) rfl rfl H rfl ?_ | refine OpsD.takeOff 28 rfl (by kernel_rfl) rfl rfl H rfl ?_
          first | refine OpsD.takeYes 29 rfl (by kernel_rfl) rfl rfl H (fun w H => Ev.fieldAddr (o := 1) (o' := oc + i * 3 + 1) rfl (by kernel_rfl) (by omega)) rfl ?_ | refine OpsD.takeNo 29 rfl (by kernel_rfl) rfl rfl H rfl ?_ | refine OpsD.takeOff 29 rfl (by kernel_rfl) rfl rfl H rfl ?_
          first | refine OpsD.takeYes 30 rfl (by kernel_rfl) rfl rfl H (fun w H => Ev.load (v := sV x.val) H rfl (by kernel_rfl) (hat 1 _ rfl).right) rfl ?_ | refine OpsD.takeNo 30 rfl (by kernel_rfl) rfl rfl H rfl ?_ | refine OpsD.takeOff 30 rfl (by kernel_rfl) rfl rfl H rfl ?_
          first | refine OpsD.takeYes 31 rfl (by kernel_rfl) rfl rfl H (fun w H => Ev.strEqR (cs := y.val) (bs := x.val) rfl rfl rfl) rfl ?_ | refine OpsD.takeNo 31 rfl (by kernel_rfl) rfl rfl H rfl ?_ | refine OpsD.takeOff 31 rfl (by kernel_rfl) rfl rfl H rfl ?_
          first | refine OpsD.takeYes 32 rfl (by kernel_rfl) rfl rfl H (fun w H => (by first | exact Ev.pickT rfl rfl | exact Ev.pickF rfl rfl)) rfl ?_ | refine OpsD.takeNo 32 rfl (by kernel_rfl) rfl rfl H rfl ?_ | refine OpsD.takeOff 32 rfl (by kernel_rfl) rfl rfl H rfl ?_
          refine OpsD.take 33 rfl (by kernel_rfl) H (fun w H => (by first | exact Ev.pickT rfl rfl | exact Ev.pickF rfl rfl)) rfl ?_
          refine OpsD.one 34 (by kernel_rfl) (StepD.exT rfl rfl (Ev.ex (Ev.assign rfl)) rfl ?_); rintro _ _ ⟨rfl, rfl⟩
          refine OpsD.done (by kernel_rfl) ?_
          exact next () _ _ H ⟨rfl, rfl, rfl, rfl, rfl, rfl, congrArg (fun b => some (Value.bool b)) (by rw [same_some hfy, hg]; rfl), trivial⟩
        · have hgl : Rd (B ++ X) ⟨bc, oc + i * 3 + 2, none⟩ (.bool false) := by
            have := (hat 2 _ rfl).right (A := B)
            rw [hg] at this
            exact this
          repeat (first | refine .seq ?_ | refine .skip ?_ | refine .block ?_ | refine .inBlock ?_ | refine .yes rfl ?_ | refine .no rfl ?_ | refine .exit rfl ?_)
          refine RunsE.drawS H [34] (by kernel_rfl) ?_; (try clear H); intro w H
          refine OpsD.take 0 rfl (by kernel_rfl) H (fun w H => Ev.move rfl) rfl ?_
          refine OpsD.take 1 rfl (by kernel_rfl) H (fun w H => Ev.move rfl) rfl ?_
          refine OpsD.take 2 rfl (by kernel_rfl) H (fun w H => Ev.iaSl (n := 104) (sz := 3) (m := i) (o := oc + i * 3) rfl rfl rfl (by kernel_rfl) hil) rfl ?_
          refine OpsD.take 3 rfl (by kernel_rfl) H (fun w H => Ev.fieldAddr (o := 2) (o' := oc + i * 3 + 2) rfl (by kernel_rfl) (by omega)) rfl ?_
          refine OpsD.take 4 rfl (by kernel_rfl) H (fun w H => Ev.load (v := .bool false) H rfl (by kernel_rfl) hgl) rfl ?_
          refine OpsD.take 5 rfl (by kernel_rfl) H (fun w H => Ev.move rfl) rfl ?_
          first | refine OpsD.takeYes 6 rfl (by kernel_rfl) rfl rfl H (fun w H => Ev.move rfl) rfl ?_ | refine OpsD.takeNo 6 rfl (by kernel_rfl) rfl rfl H rfl ?_ | refine OpsD.takeOff 6 rfl (by kernel_rfl) rfl rfl H rfl ?_
          first | refine OpsD.takeYes 7 rfl (by kernel_rfl) rfl rfl H (fun w H => Ev.lss (r := false) rfl rfl (by rw [hz]; exact decide_eq_false (by omega))) rfl ?_ | refine OpsD.takeNo 7 rfl (by kernel_rfl) rfl rfl H rfl ?_ | refine OpsD.takeOff 7 rfl (by kernel_rfl) rfl rfl H rfl ?_
          refine OpsD.take 8 rfl (by kernel_rfl) H (fun w H => (by first | exact Ev.pickT rfl rfl | exact Ev.pickF rfl rfl)) rfl ?_
          refine OpsD.take 9 rfl (by kernel_rfl) H (fun w H => Ev.move rfl) rfl ?_
          first | refine OpsD.takeYes 10 rfl (by kernel_rfl) rfl rfl H (fun w H => Ev.move rfl) rfl ?_ | refine OpsD.takeNo 10 rfl (by kernel_rfl) rfl rfl H rfl ?_ | refine OpsD.takeOff 10 rfl (by kernel_rfl) rfl rfl H rfl ?_
          first | refine OpsD.takeYes 11 rfl (by kernel_rfl) rfl rfl H (fun w H => Ev.move rfl) rfl ?_ | refine OpsD.takeNo 11 rfl (by kernel_rfl) rfl rfl H rfl ?_ | refine OpsD.takeOff 11 rfl (by kernel_rfl) rfl rfl H rfl ?_
          first | refine OpsD.takeYes 12 rfl (by kernel_rfl) rfl rfl H (fun w H => Ev.iaSl (n := 104) (sz := 3) (m := i) (o := oc + i * 3) rfl rfl rfl (by kernel_rfl) hil) rfl ?_ | refine OpsD.takeNo 12 rfl (by kernel_rfl) rfl rfl H rfl ?_ | refine OpsD.takeOff 12 rfl (by kernel_rfl) rfl rfl H rfl ?_
          first | refine OpsD.takeYes 13 rfl (by kernel_rfl) rfl rfl H (fun w H => Ev.fieldAddr (o := 2) (o' := oc + i * 3 + 2) rfl (by kernel_rfl) (by omega)) rfl ?_ | refine OpsD.takeNo 13 rfl (by kernel_rfl) rfl rfl H rfl ?_ | refine OpsD.takeOff 13 rfl (by kernel_rfl) rfl rfl H rfl ?_
          first | refine OpsD.takeYes 14 rfl (by kernel_rfl) rfl rfl H (fun w H => Ev.load (v := .bool false) H rfl (by kernel_rfl) hgl) rfl ?_ | refine OpsD.takeNo 14 rfl (by kernel_rfl) rfl rfl H rfl ?_ | refine OpsD.takeOff 14 rfl (by kernel_rfl) rfl rfl H rfl ?_
          first | refine OpsD.takeYes 15 rfl (by kernel_rfl) rfl rfl H (fun w H => Ev.not rfl) rfl ?_ | refine OpsD.takeNo 15 rfl (by kernel_rfl) rfl rfl H rfl ?_ | refine OpsD.takeOff 15 rfl (by kernel_rfl) rfl rfl H rfl ?_
          first | refine OpsD.takeYes 16 rfl (by kernel_rfl) rfl rfl H (fun w H => Ev.move rfl) rfl ?_ | refine OpsD.takeNo 16 rfl (by kernel_rfl) rfl rfl H rfl ?_ | refine OpsD.takeOff 16 rfl (by kernel_rfl) rfl rfl H rfl ?_
          first | refine OpsD.takeYes 17 rfl (by kernel_rfl) rfl rfl H (fun w H => Ev.move rfl) rfl ?_ | refine OpsD.takeNo 17 rfl (by kernel_rfl) rfl rfl H rfl ?_ | refine OpsD.takeOff 17 rfl (by kernel_rfl) rfl rfl H rfl ?_
          first | refine OpsD.takeYes 18 rfl (by kernel_rfl) rfl rfl H (fun w H => Ev.geq (r := true) rfl rfl (by rw [hz]; exact decide_eq_true (by omega))) rfl ?_ | refine OpsD.takeNo 18 rfl (by kernel_rfl) rfl rfl H rfl ?_ | refine OpsD.takeOff 18 rfl (by kernel_rfl) rfl rfl H rfl ?_
          first | refine OpsD.takeYes 19 rfl (by kernel_rfl) rfl rfl H (fun w H => (by first | exact Ev.pickT rfl rfl | exact Ev.pickF rfl rfl)) rfl ?_ | refine OpsD.takeNo 19 rfl (by kernel_rfl) rfl rfl H rfl ?_ | refine OpsD.takeOff 19 rfl (by kernel_rfl) rfl rfl H rfl ?_
          first | refine OpsD.takeYes 20 rfl (by kernel_rfl) rfl rfl H (fun w H => Ev.move rfl) rfl ?_ | refine OpsD.takeNo 20 rfl (by kernel_rfl) rfl rfl H rfl ?_ | refine OpsD.takeOff 20 rfl (by kernel_rfl) rfl rfl H rfl ?_
          first | refine OpsD.takeYes 21 rfl (by kernel_rfl) rfl rfl H (fun w H => Ev.move rfl) rfl ?_ | refine OpsD.takeNo 21 rfl (by kernel_rfl) rfl rfl H rfl ?_ | refine OpsD.takeOff 21 rfl (by kernel_rfl) rfl rfl H rfl ?_
          first | refine OpsD.takeYes 22 rfl (by kernel_rfl) rfl rfl H (fun w H => Ev.move rfl) rfl ?_ | refine OpsD.takeNo 22 rfl (by kernel_rfl) rfl rfl H rfl ?_ | refine OpsD.takeOff 22 rfl (by kernel_rfl) rfl rfl H rfl ?_
          first | refine OpsD.takeYes 23 rfl (by kernel_rfl) rfl rfl H (fun w H => Ev.iaSl (n := 64) (sz := 3) (m := findI l x.key) (o := ol + findI l x.key * 3) rfl rfl (by rw [hz]) (by kernel_rfl) hlt) rfl ?_ | refine OpsD.takeNo 23 rfl (by kernel_rfl) rfl rfl H rfl ?_ | refine OpsD.takeOff 23 rfl (by kernel_rfl) rfl rfl H rfl ?_
          first | refine OpsD.takeYes 24 rfl (by kernel_rfl) rfl rfl H (fun w H => Ev.fieldAddr (o := 1) (o' := ol + findI l x.key * 3 + 1) rfl (by kernel_rfl) (by omega)) rfl ?_ | refine OpsD.takeNo 24 rfl (by kernel_rfl) rfl rfl H rfl ?_ | refine OpsD.takeOff 24 rfl (by kernel_rfl) rfl rfl H rfl ?_
          first | refine OpsD.takeYes 25 rfl (by kernel_rfl) rfl rfl H (fun w H => Ev.load (v := sV y.val) H rfl (by kernel_rfl) (haty 1 _ rfl).right) rfl ?_ | refine OpsD.takeNo 25 rfl (by kernel_rfl) rfl rfl H rfl ?_ | refine OpsD.takeOff 25 rfl (by kernel_rfl) rfl rfl H rfl ?_
          first | refine OpsD.takeYes 26 rfl (by kernel_rfl) rfl rfl H (fun w H => Ev.move rfl) rfl ?_ | refine OpsD.takeNo 26 rfl (by kernel_rfl) rfl rfl H rfl ?_ | refine OpsD.takeOff 26 rfl (by kernel_rfl) rfl rfl H rfl ?_
          first | refine OpsD.takeYes 27 rfl (by kernel_rfl) rfl rfl H (fun w H => Ev.move rfl) rfl ?_ | refine OpsD.takeNo 27 rfl (by kernel_rfl) rfl rfl H rfl ?_ | refine OpsD.takeOff 27 rfl (by kernel_rfl) rfl rfl H rfl ?_
          first | refine OpsD.takeYes 28 rfl (by kernel_rfl) rfl rfl H (fun w H => Ev.iaSl (n := 104) (sz := 3) (m := i) (o := oc + i * 3) rfl rfl rfl (by kernel_rfl) hil) rfl ?_ | refine OpsD.takeNo 28 rfl (by kernel_rfl) rfl rfl H rfl ?_ | refine OpsD.takeOff 28 rfl (by kernel_rfl) rfl rfl H rfl ?_
          first | refine OpsD.takeYes 29 rfl (by kernel_rfl) rfl rfl H (fun w H => Ev.fieldAddr (o := 1) (o' := oc + i * 3 + 1) rfl (by kernel_rfl) (by omega)) rfl ?_ | refine OpsD.takeNo 29 rfl (by kernel_rfl) rfl rfl H rfl ?_ | refine OpsD.takeOff 29 rfl (by kernel_rfl) rfl rfl H rfl ?_
          first | refine OpsD.takeYes 30 rfl (by kernel_rfl) rfl rfl H (fun w H => Ev.load (v := sV x.val) H rfl (by kernel_rfl) (hat 1 _ rfl).right) rfl ?_ | refine OpsD.takeNo 30 rfl (by kernel_rfl) rfl rfl H rfl ?_ | refine OpsD.takeOff 30 rfl (by kernel_rfl) rfl rfl H rfl ?_
          first | refine OpsD.takeYes 31 rfl (by kernel_rfl) rfl rfl H (fun w H => Ev.strEqR (cs := y.val) (bs := x.val) rfl rfl rfl) rfl ?_ | refine OpsD.takeNo 31 rfl (by kernel_rfl) rfl rfl H rfl ?_ | refine OpsD.takeOff 31 rfl (by kernel_rfl) rfl rfl H rfl ?_
          first | refine OpsD.takeYes 32 rfl (by kernel_rfl) rfl rfl H (fun w H => (by first | exact Ev.pickT rfl rfl | exact Ev.pickF rfl rfl)) rfl ?_ | refine OpsD.takeNo 32 rfl (by kernel_rfl) rfl rfl H rfl ?_ | refine OpsD.takeOff 32 rfl (by kernel_rfl) rfl rfl H rfl ?_
          refine OpsD.take 33 rfl (by kernel_rfl) H (fun w H => (by first | exact Ev.pickT rfl rfl | exact Ev.pickF rfl rfl)) rfl ?_
          refine OpsD.one 34 (by kernel_rfl) (StepD.exT rfl rfl (Ev.ex (Ev.assign rfl)) rfl ?_); rintro _ _ ⟨rfl, rfl⟩
          refine OpsD.done (by kernel_rfl) ?_
          exact next () _ _ H ⟨rfl, rfl, rfl, rfl, rfl, rfl, congrArg (fun b => some (Value.bool b)) (by rw [same_some hfy, hg]; rfl), trivial⟩
      · have hfy : findL l x.key = none := by rw [find_at, List.getElem?_eq_none (by omega)]
        have hz : findZ l x.key = -1 := if_neg hlt
        obtain hg | hg : x.gone = true ∨ x.gone = false := by cases x.gone <;> simp
        · have hgl : Rd (B ++ X) ⟨bc, oc + i * 3 + 2, none⟩ (.bool true) := by
            have := (hat 2 _ rfl).right (A := B)
            rw [hg] at this
            exact this
          repeat (first | refine .seq ?_ | refine .skip ?_ | refine .block ?_ | refine .inBlock ?_ | refine .yes rfl ?_ | refine .no rfl ?_ | refine .exit rfl ?_)
          refine RunsE.drawS H [34] (by kernel_rfl) ?_; (try clear H); intro w H
          refine OpsD.take 0 rfl (by kernel_rfl) H (fun w H => Ev.move rfl) rfl ?_
          refine OpsD.take 1 rfl (by kernel_rfl) H (fun w H => Ev.move rfl) rfl ?_
          refine OpsD.take 2 rfl (by kernel_rfl) H (fun w H => Ev.iaSl (n := 104) (sz := 3) (m := i) (o := oc + i * 3) rfl rfl rfl (by kernel_rfl) hil) rfl ?_
          refine OpsD.take 3 rfl (by kernel_rfl) H (fun w H => Ev.fieldAddr (o := 2) (o' := oc + i * 3 + 2) rfl (by kernel_rfl) (by omega)) rfl ?_
          refine OpsD.take 4 rfl (by kernel_rfl) H (fun w H => Ev.load (v := .bool true) H rfl (by kernel_rfl) hgl) rfl ?_
          refine OpsD.take 5 rfl (by kernel_rfl) H (fun w H => Ev.move rfl) rfl ?_
          first | refine OpsD.takeYes 6 rfl (by kernel_rfl) rfl rfl H (fun w H => Ev.move rfl) rfl ?_ | refine OpsD.takeNo 6 rfl (by kernel_rfl) rfl rfl H rfl ?_ | refine OpsD.takeOff 6 rfl (by kernel_rfl) rfl rfl H rfl ?_
          first | refine OpsD.takeYes 7 rfl (by kernel_rfl) rfl rfl H (fun w H => Ev.lss (r := true) rfl rfl (by rw [hz]; rfl)) rfl ?_ | refine OpsD.takeNo 7 rfl (by kernel_rfl) rfl rfl H rfl ?_ | refine OpsD.takeOff 7 rfl (by kernel_rfl) rfl rfl H rfl ?_
          refine OpsD.take 8 rfl (by kernel_rfl) H (fun w H => (by first | exact Ev.pickT rfl rfl | exact Ev.pickF rfl rfl)) rfl ?_
          refine OpsD.take 9 rfl (by kernel_rfl) H (fun w H => Ev.move rfl) rfl ?_
          first | refine OpsD.takeYes 10 rfl (by kernel_rfl) rfl rfl H (fun w H => Ev.move rfl) rfl ?_ | refine OpsD.takeNo 10 rfl (by kernel_rfl) rfl rfl H rfl ?_ | refine OpsD.takeOff 10 rfl (by kernel_rfl) rfl rfl H rfl ?_
          first | refine OpsD.takeYes 11 rfl (by kernel_rfl) rfl rfl H (fun w H => Ev.move rfl) rfl ?_ | refine OpsD.takeNo 11 rfl (by kernel_rfl) rfl rfl H rfl ?_ | refine OpsD.takeOff 11 rfl (by kernel_rfl) rfl rfl H rfl ?_
          first | refine OpsD.takeYes 12 rfl (by kernel_rfl) rfl rfl H (fun w H => Ev.iaSl (n := 104) (sz := 3) (m := i) (o := oc + i * 3) rfl rfl rfl (by kernel_rfl) hil) rfl ?_ | refine OpsD.takeNo 12 rfl (by kernel_rfl) rfl rfl H rfl ?_ | refine OpsD.takeOff 12 rfl (by kernel_rfl) rfl rfl H rfl ?_
          first | refine OpsD.takeYes 13 rfl (by kernel_rfl) rfl rfl H (fun w H => Ev.fieldAddr (o := 2) (o' := oc + i * 3 + 2) rfl (by kernel_rfl) (by omega)) rfl ?_ | refine OpsD.takeNo 13 rfl (by kernel_rfl) rfl rfl H rfl ?_ | refine OpsD.takeOff 13 rfl (by kernel_rfl) rfl rfl H rfl ?_
          first | refine OpsD.takeYes 14 rfl (by kernel_rfl) rfl rfl H (fun w H => Ev.load (v := .bool true) H rfl (by kernel_rfl) hgl) rfl ?_ | refine OpsD.takeNo 14 rfl (by kernel_rfl) rfl rfl H rfl ?_ | refine OpsD.takeOff 14 rfl (by kernel_rfl) rfl rfl H rfl ?_
          first | refine OpsD.takeYes 15 rfl (by kernel_rfl) rfl rfl H (fun w H => Ev.not rfl) rfl ?_ | refine OpsD.takeNo 15 rfl (by kernel_rfl) rfl rfl H rfl ?_ | refine OpsD.takeOff 15 rfl (by kernel_rfl) rfl rfl H rfl ?_
          first | refine OpsD.takeYes 16 rfl (by kernel_rfl) rfl rfl H (fun w H => Ev.move rfl) rfl ?_ | refine OpsD.takeNo 16 rfl (by kernel_rfl) rfl rfl H rfl ?_ | refine OpsD.takeOff 16 rfl (by kernel_rfl) rfl rfl H rfl ?_
          first | refine OpsD.takeYes 17 rfl (by kernel_rfl) rfl rfl H (fun w H => Ev.move rfl) rfl ?_ | refine OpsD.takeNo 17 rfl (by kernel_rfl) rfl rfl H rfl ?_ | refine OpsD.takeOff 17 rfl (by kernel_rfl) rfl rfl H rfl ?_
          first | refine OpsD.takeYes 18 rfl (by kernel_rfl) rfl rfl H (fun w H => Ev.geq (r := false) rfl rfl (by rw [hz]; rfl)) rfl ?_ | refine OpsD.takeNo 18 rfl (by kernel_rfl) rfl rfl H rfl ?_ | refine OpsD.takeOff 18 rfl (by kernel_rfl) rfl rfl H rfl ?_
          first | refine OpsD.takeYes 19 rfl (by kernel_rfl) rfl rfl H (fun w H => (by first | exact Ev.pickT rfl rfl | exact Ev.pickF rfl rfl)) rfl ?_ | refine OpsD.takeNo 19 rfl (by kernel_rfl) rfl rfl H rfl ?_ | refine OpsD.takeOff 19 rfl (by kernel_rfl) rfl rfl H rfl ?_
          first | refine OpsD.takeYes 20 rfl (by kernel_rfl) rfl rfl H (fun w H => Ev.move rfl) rfl ?_ | refine OpsD.takeNo 20 rfl (by kernel_rfl) rfl rfl H rfl ?_ | refine OpsD.takeOff 20 rfl (by kernel_rfl) rfl rfl H rfl ?_
          first | refine OpsD.takeYes 21 rfl (by kernel_rfl) rfl rfl H (fun w H => Ev.move rfl) rfl ?_ | refine OpsD.takeNo 21 rfl (by kernel_rfl) rfl rfl H rfl ?_ | refine OpsD.takeOff 21 rfl (by kernel_rfl) rfl rfl H rfl ?_
          first | refine OpsD.takeYes 22 rfl (by kernel_rfl) rfl rfl H (fun w H => Ev.move rfl) rfl ?_ | refine OpsD.takeNo 22 rfl (by kernel_rfl) rfl rfl H rfl ?_ | refine OpsD.takeOff 22 rfl (by kernel_rfl) rfl rfl H rfl ?_
          first | refine OpsD.takeYes 23 rfl (by kernel_rfl) rfl rfl H (fun w H => Ev.iaSl (n := 64) (sz := 3) rfl rfl rfl (by kernel_rfl) (by omega)) rfl ?_ | refine OpsD.takeNo 23 rfl (by kernel_rfl) rfl rfl H rfl ?_ | refine OpsD.takeOff 23 rfl (by kernel_rfl) rfl rfl H rfl ?_
          first | refine OpsD.takeYes 24 rfl (by kernel_rfl) rfl rfl H (fun w H => Ev.fieldAddr (o := 1) rfl (by kernel_rfl)) rfl ?_ | refine OpsD.takeNo 24 rfl (by kernel_rfl) rfl rfl H rfl ?_ | refine OpsD.takeOff 24 rfl (by kernel_rfl) rfl rfl H rfl ?_
          first | refine OpsD.takeYes 25 rfl (by kernel_rfl) rfl rfl H (fun w H => Ev.load H rfl (by kernel_rfl) (by first | exact Rd.mk m0 rfl | exact Rd.mk m1 rfl | exact Rd.mk m2 rfl | exact Rd.mk m3 rfl | assumption)) rfl ?_ | refine OpsD.takeNo 25 rfl (by kernel_rfl) rfl rfl H rfl ?_ | refine OpsD.takeOff 25 rfl (by kernel_rfl) rfl rfl H rfl ?_
          first | refine OpsD.takeYes 26 rfl (by kernel_rfl) rfl rfl H (fun w H => Ev.move rfl) rfl ?_ | refine OpsD.takeNo 26 rfl (by kernel_rfl) rfl rfl H rfl ?_ | refine OpsD.takeOff 26 rfl (by kernel_rfl) rfl rfl H rfl ?_
          first | refine OpsD.takeYes 27 rfl (by kernel_rfl) rfl rfl H (fun w H => Ev.move rfl) rfl ?_ | refine OpsD.takeNo 27 rfl (by kernel_rfl) rfl rfl H rfl ?_ | refine OpsD.takeOff 27 rfl (by kernel_rfl) rfl rfl H rfl ?_
          first | refine OpsD.takeYes 28 rfl (by kernel_rfl) rfl rfl H (fun w H => Ev.iaSl (n := 104) (sz := 3) (m := i) (o := oc + i * 3) rfl rfl rfl (by kernel_rfl) hil) rfl ?_ | refine OpsD.takeNo 28 rfl (by kernel_rfl) rfl rfl H rfl ?_ | refine OpsD.takeOff 28 rfl (by kernel_rfl) rfl rfl H rfl ?_
          first | refine OpsD.takeYes 29 rfl (by kernel_rfl) rfl rfl H (fun w H => Ev.fieldAddr (o := 1) (o' := oc + i * 3 + 1) rfl (by kernel_rfl) (by omega)) rfl ?_ | refine OpsD.takeNo 29 rfl (by kernel_rfl) rfl rfl H rfl ?_ | refine OpsD.takeOff 29 rfl (by kernel_rfl) rfl rfl H rfl ?_
          first | refine OpsD.takeYes 30 rfl (by kernel_rfl) rfl rfl H (fun w H => Ev.load (v := sV x.val) H rfl (by kernel_rfl) (hat 1 _ rfl).right) rfl ?_ | refine OpsD.takeNo 30 rfl (by kernel_rfl) rfl rfl H rfl ?_ | refine OpsD.takeOff 30 rfl (by kernel_rfl) rfl rfl H rfl ?_
          first | refine OpsD.takeYes 31 rfl (by kernel_rfl) rfl rfl H (fun w H => Ev.strEqR (cs := y.val) (bs := x.val) rfl rfl rfl) rfl ?_ | refine OpsD.takeNo 31 rfl (by kernel_rfl) rfl rfl H rfl ?_ | refine OpsD.takeOff 31 rfl (by kernel_rfl) rfl rfl H rfl ?_
          first | refine OpsD.takeYes 32 rfl (by kernel_rfl) rfl rfl H (fun w H => (by first | exact Ev.pickT rfl rfl | exact Ev.pickF rfl rfl)) rfl ?_ | refine OpsD.takeNo 32 rfl (by kernel_rfl) rfl rfl H rfl ?_ | refine OpsD.takeOff 32 rfl (by kernel_rfl) rfl rfl H rfl ?_
          refine OpsD.take 33 rfl (by kernel_rfl) H (fun w H => (by first | exact Ev.pickT rfl rfl | exact Ev.pickF rfl rfl)) rfl ?_
          refine OpsD.one 34 (by kernel_rfl) (StepD.exT rfl rfl (Ev.ex (Ev.assign rfl)) rfl ?_); rintro _ _ ⟨rfl, rfl⟩
          refine OpsD.done (by kernel_rfl) ?_
          exact next () _ _ H ⟨rfl, rfl, rfl, rfl, rfl, rfl, congrArg (fun b => some (Value.bool b)) (by rw [same_none hfy, hg]), trivial⟩
        · have hgl : Rd (B ++ X) ⟨bc, oc + i * 3 + 2, none⟩ (.bool false) := by
            have := (hat 2 _ rfl).right (A := B)
            rw [hg] at this
            exact this
          repeat (first | refine .seq ?_ | refine .skip ?_ | refine .block ?_ | refine .inBlock ?_ | refine .yes rfl ?_ | refine .no rfl ?_ | refine .exit rfl ?_)
          refine RunsE.drawS H [34] (by kernel_rfl) ?_; (try clear H); intro w H
          refine OpsD.take 0 rfl (by kernel_rfl) H (fun w H => Ev.move rfl) rfl ?_
          refine OpsD.take 1 rfl (by kernel_rfl) H (fun w H => Ev.move rfl) rfl ?_
          refine OpsD.take 2 rfl (by kernel_rfl) H (fun w H => Ev.iaSl (n := 104) (sz := 3) (m := i) (o := oc + i * 3) rfl rfl rfl (by kernel_rfl) hil) rfl ?_
          refine OpsD.take 3 rfl (by kernel_rfl) H (fun w H => Ev.fieldAddr (o := 2) (o' := oc + i * 3 + 2) rfl (by kernel_rfl) (by omega)) rfl ?_
          refine OpsD.take 4 rfl (by kernel_rfl) H (fun w H => Ev.load (v := .bool false) H rfl (by kernel_rfl) hgl) rfl ?_
          refine OpsD.take 5 rfl (by kernel_rfl) H (fun w H => Ev.move rfl) rfl ?_
          first | refine OpsD.takeYes 6 rfl (by kernel_rfl) rfl rfl H (fun w H => Ev.move rfl) rfl ?_ | refine OpsD.takeNo 6 rfl (by kernel_rfl) rfl rfl H rfl ?_ | refine OpsD.takeOff 6 rfl (by kernel_rfl) rfl rfl H rfl ?_
          first | refine OpsD.takeYes 7 rfl (by kernel_rfl) rfl rfl H (fun w H => Ev.lss (r := true) rfl rfl (by rw [hz]; rfl)) rfl ?_ | refine OpsD.takeNo 7 rfl (by kernel_rfl) rfl rfl H rfl ?_ | refine OpsD.takeOff 7 rfl (by kernel_rfl) rfl rfl H rfl ?_
          refine OpsD.take 8 rfl (by kernel_rfl) H (fun w H => (by first | exact Ev.pickT rfl rfl | exact Ev.pickF rfl rfl)) rfl ?_
          refine OpsD.take 9 rfl (by kernel_rfl) H (fun w H => Ev.move rfl) rfl ?_
          first | refine OpsD.takeYes 10 rfl (by kernel_rfl) rfl rfl H (fun w H => Ev.move rfl) rfl ?_ | refine OpsD.takeNo 10 rfl (by kernel_rfl) rfl rfl H rfl ?_ | refine OpsD.takeOff 10 rfl (by kernel_rfl) rfl rfl H rfl ?_
          first | refine OpsD.takeYes 11 rfl (by kernel_rfl) rfl rfl H (fun w H => Ev.move rfl) rfl ?_ | refine OpsD.takeNo 11 rfl (by kernel_rfl) rfl rfl H rfl ?_ | refine OpsD.takeOff 11 rfl (by kernel_rfl) rfl rfl H rfl ?_
          first | refine OpsD.takeYes 12 rfl (by kernel_rfl) rfl rfl H (fun w H => Ev.iaSl (n := 104) (sz := 3) (m := i) (o := oc + i * 3) rfl rfl rfl (by kernel_rfl) hil) rfl ?_ | refine OpsD.takeNo 12 rfl (by kernel_rfl) rfl rfl H rfl ?_ | refine OpsD.takeOff 12 rfl (by kernel_rfl) rfl rfl H rfl ?_
          first | refine OpsD.takeYes 13 rfl (by kernel_rfl) rfl rfl H (fun w H => Ev.fieldAddr (o := 2) (o' := oc + i * 3 + 2) rfl (by kernel_rfl) (by omega)) rfl ?_ | refine OpsD.takeNo 13 rfl (by kernel_rfl) rfl rfl H rfl ?_ | refine OpsD.takeOff 13 rfl (by kernel_rfl) rfl rfl H rfl ?_
          first | refine OpsD.takeYes 14 rfl (by kernel_rfl) rfl rfl H (fun w H => Ev.load (v := .bool false) H rfl (by kernel_rfl) hgl) rfl ?_ | refine OpsD.takeNo 14 rfl (by kernel_rfl) rfl rfl H rfl ?_ | refine OpsD.takeOff 14 rfl (by kernel_rfl) rfl rfl H rfl ?_
          first | refine OpsD.takeYes 15 rfl (by kernel_rfl) rfl rfl H (fun w H => Ev.not rfl) rfl ?_ | refine OpsD.takeNo 15 rfl (by kernel_rfl) rfl rfl H rfl ?_ | refine OpsD.takeOff 15 rfl (by kernel_rfl) rfl rfl H rfl ?_
          first | refine OpsD.takeYes 16 rfl (by kernel_rfl) rfl rfl H (fun w H => Ev.move rfl) rfl ?_ | refine OpsD.takeNo 16 rfl (by kernel_rfl) rfl rfl H rfl ?_ | refine OpsD.takeOff 16 rfl (by kernel_rfl) rfl rfl H rfl ?_
          first | refine OpsD.takeYes 17 rfl (by kernel_rfl) rfl rfl H (fun w H => Ev.move rfl) rfl ?_ | refine OpsD.takeNo 17 rfl (by kernel_rfl) rfl rfl H rfl ?_ | refine OpsD.takeOff 17 rfl (by kernel_rfl) rfl rfl H rfl ?_
          first | refine OpsD.takeYes 18 rfl (by kernel_rfl) rfl rfl H (fun w H => Ev.geq (r := false) rfl rfl (by rw [hz]; rfl)) rfl ?_ | refine OpsD.takeNo 18 rfl (by kernel_rfl) rfl rfl H rfl ?_ | refine OpsD.takeOff 18 rfl (by kernel_rfl) rfl rfl H rfl ?_
          first | refine OpsD.takeYes 19 rfl (by kernel_rfl) rfl rfl H (fun w H => (by first | exact Ev.pickT rfl rfl | exact Ev.pickF rfl rfl)) rfl ?_ | refine OpsD.takeNo 19 rfl (by kernel_rfl) rfl rfl H rfl ?_ | refine OpsD.takeOff 19 rfl (by kernel_rfl) rfl rfl H rfl ?_
          first | refine OpsD.takeYes 20 rfl (by kernel_rfl) rfl rfl H (fun w H => Ev.move rfl) rfl ?_ | refine OpsD.takeNo 20 rfl (by kernel_rfl) rfl rfl H rfl ?_ | refine OpsD.takeOff 20 rfl (by kernel_rfl) rfl rfl H rfl ?_
          first | refine OpsD.takeYes 21 rfl (by kernel_rfl) rfl rfl H (fun w H => Ev.move rfl) rfl ?_ | refine OpsD.takeNo 21 rfl (by kernel_rfl) rfl rfl H rfl ?_ | refine OpsD.takeOff 21 rfl (by kernel_rfl) rfl rfl H rfl ?_
          first | refine OpsD.takeYes 22 rfl (by kernel_rfl) rfl rfl H (fun w H => Ev.move rfl) rfl ?_ | refine OpsD.takeNo 22 rfl (by kernel_rfl) rfl rfl H rfl ?_ | refine OpsD.takeOff 22 rfl (by kernel_rfl) rfl rfl H rfl ?_
          first | refine OpsD.takeYes 23 rfl (by kernel_rfl) rfl rfl H (fun w H => Ev.iaSl (n := 64) (sz := 3) rfl rfl rfl (by kernel_rfl) (by omega)) rfl ?_ | refine OpsD.takeNo 23 rfl (by kernel_rfl) rfl rfl H rfl ?_ | refine OpsD.takeOff 23 rfl (by kernel_rfl) rfl rfl H rfl ?_
          first | refine OpsD.takeYes 24 rfl (by kernel_rfl) rfl rfl H (fun w H => Ev.fieldAddr (o := 1) rfl (by kernel_rfl)) rfl ?_ | refine OpsD.takeNo 24 rfl (by kernel_rfl) rfl rfl H rfl ?_ | refine OpsD.takeOff 24 rfl (by kernel_rfl) rfl rfl H rfl ?_
          first | refine OpsD.takeYes 25 rfl (by kernel_rfl) rfl rfl H (fun w H => Ev.load H rfl (by kernel_rfl) (by first | exact Rd.mk m0 rfl | exact Rd.mk m1 rfl | exact Rd.mk m2 rfl | exact Rd.mk m3 rfl | assumption)) rfl ?_ | refine OpsD.takeNo 25 rfl (by kernel_rfl) rfl rfl H rfl ?_ | refine OpsD.takeOff 25 rfl (by kernel_rfl) rfl rfl H rfl ?_
          first | refine OpsD.takeYes 26 rfl (by kernel_rfl) rfl rfl H (fun w H => Ev.move rfl) rfl ?_ | refine OpsD.takeNo 26 rfl (by kernel_rfl) rfl rfl H rfl ?_ | refine OpsD.takeOff 26 rfl (by kernel_rfl) rfl rfl H rfl ?_
          first | refine OpsD.takeYes 27 rfl (by kernel_rfl) rfl rfl H (fun w H => Ev.move rfl) rfl ?_ | refine OpsD.takeNo 27 rfl (by kernel_rfl) rfl rfl H rfl ?_ | refine OpsD.takeOff 27 rfl (by kernel_rfl) rfl rfl H rfl ?_
          first | refine OpsD.takeYes 28 rfl (by kernel_rfl) rfl rfl H (fun w H => Ev.iaSl (n := 104) (sz := 3) (m := i) (o := oc + i * 3) rfl rfl rfl (by kernel_rfl) hil) rfl ?_ | refine OpsD.takeNo 28 rfl (by kernel_rfl) rfl rfl H rfl ?_ | refine OpsD.takeOff 28 rfl (by kernel_rfl) rfl rfl H rfl ?_
          first | refine OpsD.takeYes 29 rfl (by kernel_rfl) rfl rfl H (fun w H => Ev.fieldAddr (o := 1) (o' := oc + i * 3 + 1) rfl (by kernel_rfl) (by omega)) rfl ?_ | refine OpsD.takeNo 29 rfl (by kernel_rfl) rfl rfl H rfl ?_ | refine OpsD.takeOff 29 rfl (by kernel_rfl) rfl rfl H rfl ?_
          first | refine OpsD.takeYes 30 rfl (by kernel_rfl) rfl rfl H (fun w H => Ev.load (v := sV x.val) H rfl (by kernel_rfl) (hat 1 _ rfl).right) rfl ?_ | refine OpsD.takeNo 30 rfl (by kernel_rfl) rfl rfl H rfl ?_ | refine OpsD.takeOff 30 rfl (by kernel_rfl) rfl rfl H rfl ?_
          first | refine OpsD.takeYes 31 rfl (by kernel_rfl) rfl rfl H (fun w H => Ev.strEqR (cs := y.val) (bs := x.val) rfl rfl rfl) rfl ?_ | refine OpsD.takeNo 31 rfl (by kernel_rfl) rfl rfl H rfl ?_ | refine OpsD.takeOff 31 rfl (by kernel_rfl) rfl rfl H rfl ?_
          first | refine OpsD.takeYes 32 rfl (by kernel_rfl) rfl rfl H (fun w H => (by first | exact Ev.pickT rfl rfl | exact Ev.pickF rfl rfl)) rfl ?_ | refine OpsD.takeNo 32 rfl (by kernel_rfl) rfl rfl H rfl ?_ | refine OpsD.takeOff 32 rfl (by kernel_rfl) rfl rfl H rfl ?_
          refine OpsD.take 33 rfl (by kernel_rfl) H (fun w H => (by first | exact Ev.pickT rfl rfl | exact Ev.pickF rfl rfl)) rfl ?_
          refine OpsD.one 34 (by kernel_rfl) (StepD.exT rfl rfl (Ev.ex (Ev.assign rfl)) rfl ?_); rintro _ _ ⟨rfl, rfl⟩
          refine OpsD.done (by kernel_rfl) ?_
          exact next () _ _ H ⟨rfl, rfl, rfl, rfl, rfl, rfl, congrArg (fun b => some (Value.bool b)) (by rw [same_none hfy, hg]), trivial⟩
    clear H
    rintro _ w H
    obtain ha | ha : ((cs.drop (i + 1)).any fun y => decide (y.key = x.key)) = true ∨ ((cs.drop (i + 1)).any fun y => decide (y.key = x.key)) = false := by cases (cs.drop (i + 1)).any fun y => decide (y.key = x.key) <;> simp
    · rw [if_pos (.inl ha)] at hrest
      rw [ha]
      repeat (first | refine .seq ?_ | refine .skip ?_ | refine .block ?_ | refine .inBlock ?_ | refine .yes rfl ?_ | refine .no rfl ?_ | refine .exit rfl ?_)
      refine RunsE.region ?_
      refine OpsE.ev (Ev.move rfl) rfl ?_
      refine OpsE.ev (Ev.not rfl) rfl ?_
      refine OpsE.ev (Ev.move rfl) rfl ?_
      first | (refine OpsE.yes rfl rfl ?_; refine OpsE.ev (Ev.move rfl) rfl ?_) | refine OpsE.no rfl rfl rfl ?_ | refine OpsE.off rfl rfl rfl ?_
      refine OpsE.ev ((by first | exact Ev.pickT rfl rfl | exact Ev.pickF rfl rfl)) rfl ?_
      refine OpsE.nil ?_
      repeat refine RunsE.seq ?_
      refine RunsE.yes rfl ?_
      refine RunsE.exit rfl ?_
      repeat (first | refine .seq ?_ | refine .skip ?_ | refine .block ?_ | refine .inBlock ?_ | refine .yes rfl ?_ | refine .no rfl ?_ | refine .exit rfl ?_)
      refine RunsE.region ?_
      refine OpsE.ev (Ev.move rfl) rfl ?_
      refine OpsE.ev (Ev.add rfl rfl) rfl ?_
      refine OpsE.ev (Ev.assign rfl) rfl ?_
      refine OpsE.nil ?_
      exact nextL (i + 1, v, acc) _ _ (by simp only; omega) ⟨by simp only; omega, hrest, by simp only; omega, B, hs, H⟩ ⟨rfl, rfl, rfl, rfl, rfl, trivial⟩
    obtain hsm | hsm : sameM l x = true ∨ sameM l x = false := by cases sameM l x <;> simp
    · rw [if_pos (.inr hsm)] at hrest
      rw [ha, hsm]
      repeat (first | refine .seq ?_ | refine .skip ?_ | refine .block ?_ | refine .inBlock ?_ | refine .yes rfl ?_ | refine .no rfl ?_ | refine .exit rfl ?_)
      refine RunsE.region ?_
      refine OpsE.ev (Ev.move rfl) rfl ?_
      refine OpsE.ev (Ev.not rfl) rfl ?_
      refine OpsE.ev (Ev.move rfl) rfl ?_
      first | (refine OpsE.yes rfl rfl ?_; refine OpsE.ev (Ev.move rfl) rfl ?_) | refine OpsE.no rfl rfl rfl ?_ | refine OpsE.off rfl rfl rfl ?_
      refine OpsE.ev ((by first | exact Ev.pickT rfl rfl | exact Ev.pickF rfl rfl)) rfl ?_
      refine OpsE.nil ?_
      repeat refine RunsE.seq ?_
      refine RunsE.yes rfl ?_
      refine RunsE.exit rfl ?_
      repeat (first | refine .seq ?_ | refine .skip ?_ | refine .block ?_ | refine .inBlock ?_ | refine .yes rfl ?_ | refine .no rfl ?_ | refine .exit rfl ?_)
      refine RunsE.region ?_
      refine OpsE.ev (Ev.move rfl) rfl ?_
      refine OpsE.ev (Ev.add rfl rfl) rfl ?_
      refine OpsE.ev (Ev.assign rfl) rfl ?_
      refine OpsE.nil ?_
      exact nextL (i + 1, v, acc) _ _ (by simp only; omega) ⟨by simp only; omega, hrest, by simp only; omega, B, hs, H⟩ ⟨rfl, rfl, rfl, rfl, rfl, trivial⟩
    rw [if_neg (by rw [ha, hsm]; simp)] at hrest
    rw [ha, hsm]
    repeat (first | refine .seq ?_ | refine .skip ?_ | refine .block ?_ | refine .inBlock ?_ | refine .yes rfl ?_ | refine .no rfl ?_ | refine .exit rfl ?_)
    refine RunsE.region ?_
    refine OpsE.ev (Ev.move rfl) rfl ?_
    refine OpsE.ev (Ev.not rfl) rfl ?_
    refine OpsE.ev (Ev.move rfl) rfl ?_
    first | (refine OpsE.yes rfl rfl ?_; refine OpsE.ev (Ev.move rfl) rfl ?_) | refine OpsE.no rfl rfl rfl ?_ | refine OpsE.off rfl rfl rfl ?_
    refine OpsE.ev ((by first | exact Ev.pickT rfl rfl | exact Ev.pickF rfl rfl)) rfl ?_
    refine OpsE.nil ?_
    repeat refine RunsE.seq ?_
    refine RunsE.no rfl ?_
    repeat (first | refine .seq ?_ | refine .skip ?_ | refine .block ?_ | refine .inBlock ?_ | refine .yes rfl ?_ | refine .no rfl ?_ | refine .exit rfl ?_)
    refine RunsE.region ?_
    refine OpsE.ev (Ev.assign rfl) rfl ?_
    refine OpsE.nil ?_
    obtain ⟨p, hp⟩ : ∃ p, p = fun y : Ch => decide (y.key < x.key) := ⟨_, rfl⟩
    obtain ⟨av, cv, rfl, hcv⟩ := hs.leCap
    have hrd : RdS (B ++ X) 3 (.slice av acc.length cv) acc.length (acc.flatMap gC) := hs.rdS fun _ => rfl
    have htl : (acc.takeWhile p).length ≤ acc.length := (List.takeWhile_prefix p).length_le
    repeat refine RunsE.seq ?_
    refine RunsE.join (fun k : Nat => [(0, .slice al l.length cl), (1, .int .i64 (count : Int)), (2, .slice (some ⟨bc, oc, none⟩) cs.length cc), (10, .slice av acc.length cv), (11, .int .i64 (i : Int)), (16, .int .i64 (k : Int))])
      (fun k w => k = (acc.takeWhile p).length ∧ SL w (B ++ X)) (fun next => ?_) ?_
    · refine RunsE.block ?_
      refine RunsE.loop (fun k : Nat => [(0, .slice al l.length cl), (1, .int .i64 (count : Int)), (2, .slice (some ⟨bc, oc, none⟩) cs.length cc), (10, .slice av acc.length cv), (11, .int .i64 (i : Int)), (16, .int .i64 (k : Int))])
        (fun k w => k ≤ (acc.takeWhile p).length ∧ SL w (B ++ X)) (fun k => acc.length - k) 0 ⟨rfl, rfl, rfl, rfl, rfl, rfl, trivial⟩ ⟨by omega, H⟩ ?_
      clear H nextL
      rintro k w ⟨hk, H⟩ nextL
      by_cases h3 : k = acc.length
      ·
        repeat (first | refine .seq ?_ | refine .skip ?_ | refine .block ?_ | refine .inBlock ?_ | refine .yes rfl ?_ | refine .no rfl ?_ | refine .exit rfl ?_)
        refine RunsE.drawS H [] (by kernel_rfl) ?_; (try clear H); intro w H
        refine OpsD.take 0 rfl (by kernel_rfl) H (fun w H => Ev.move rfl) rfl ?_
        refine OpsD.take 1 rfl (by kernel_rfl) H (fun w H => Ev.move rfl) rfl ?_
        refine OpsD.take 2 rfl (by kernel_rfl) H (fun w H => Ev.lenSl (d := 104) rfl rfl (by kernel_rfl)) rfl ?_
        refine OpsD.take 3 rfl (by kernel_rfl) H (fun w H => Ev.lss (r := false) rfl rfl (decide_eq_false (by omega))) rfl ?_
        refine OpsD.take 4 rfl (by kernel_rfl) H (fun w H => Ev.move rfl) rfl ?_
        first | refine OpsD.takeYes 5 rfl (by kernel_rfl) rfl rfl H (fun w H => Ev.move rfl) rfl ?_ | refine OpsD.takeNo 5 rfl (by kernel_rfl) rfl rfl H rfl ?_ | refine OpsD.takeOff 5 rfl (by kernel_rfl) rfl rfl H rfl ?_
        first | refine OpsD.takeYes 6 rfl (by kernel_rfl) rfl rfl H (fun w H => Ev.move rfl) rfl ?_ | refine OpsD.takeNo 6 rfl (by kernel_rfl) rfl rfl H rfl ?_ | refine OpsD.takeOff 6 rfl (by kernel_rfl) rfl rfl H rfl ?_
        first | refine OpsD.takeYes 7 rfl (by kernel_rfl) rfl rfl H (fun w H => Ev.iaSl (n := 104) (sz := 3) rfl rfl rfl (by kernel_rfl) (by omega)) rfl ?_ | refine OpsD.takeNo 7 rfl (by kernel_rfl) rfl rfl H rfl ?_ | refine OpsD.takeOff 7 rfl (by kernel_rfl) rfl rfl H rfl ?_
        first | refine OpsD.takeYes 8 rfl (by kernel_rfl) rfl rfl H (fun w H => Ev.fieldAddr (o := 0) rfl (by kernel_rfl)) rfl ?_ | refine OpsD.takeNo 8 rfl (by kernel_rfl) rfl rfl H rfl ?_ | refine OpsD.takeOff 8 rfl (by kernel_rfl) rfl rfl H rfl ?_
        first | refine OpsD.takeYes 9 rfl (by kernel_rfl) rfl rfl H (fun w H => Ev.load H rfl (by kernel_rfl) (by first | exact Rd.mk m0 rfl | exact Rd.mk m1 rfl | exact Rd.mk m2 rfl | exact Rd.mk m3 rfl | assumption)) rfl ?_ | refine OpsD.takeNo 9 rfl (by kernel_rfl) rfl rfl H rfl ?_ | refine OpsD.takeOff 9 rfl (by kernel_rfl) rfl rfl H rfl ?_
        first | refine OpsD.takeYes 10 rfl (by kernel_rfl) rfl rfl H (fun w H => Ev.move rfl) rfl ?_ | refine OpsD.takeNo 10 rfl (by kernel_rfl) rfl rfl H rfl ?_ | refine OpsD.takeOff 10 rfl (by kernel_rfl) rfl rfl H rfl ?_
        first | refine OpsD.takeYes 11 rfl (by kernel_rfl) rfl rfl H (fun w H => Ev.move rfl) rfl ?_ | refine OpsD.takeNo 11 rfl (by kernel_rfl) rfl rfl H rfl ?_ | refine OpsD.takeOff 11 rfl (by kernel_rfl) rfl rfl H rfl ?_
        first | refine OpsD.takeYes 12 rfl (by kernel_rfl) rfl rfl H (fun w H => Ev.iaSl (n := 104) (sz := 3) rfl rfl rfl (by kernel_rfl) (by omega)) rfl ?_ | refine OpsD.takeNo 12 rfl (by kernel_rfl) rfl rfl H rfl ?_ | refine OpsD.takeOff 12 rfl (by kernel_rfl) rfl rfl H rfl ?_
        first | refine OpsD.takeYes 13 rfl (by kernel_rfl) rfl rfl H (fun w H => Ev.fieldAddr (o := 0) rfl (by kernel_rfl)) rfl ?_ | refine OpsD.takeNo 13 rfl (by kernel_rfl) rfl rfl H rfl ?_ | refine OpsD.takeOff 13 rfl (by kernel_rfl) rfl rfl H rfl ?_
        first | refine OpsD.takeYes 14 rfl (by kernel_rfl) rfl rfl H (fun w H => Ev.load H rfl (by kernel_rfl) (by first | exact Rd.mk m0 rfl | exact Rd.mk m1 rfl | exact Rd.mk m2 rfl | exact Rd.mk m3 rfl | assumption)) rfl ?_ | refine OpsD.takeNo 14 rfl (by kernel_rfl) rfl rfl H rfl ?_ | refine OpsD.takeOff 14 rfl (by kernel_rfl) rfl rfl H rfl ?_
        first | refine OpsD.takeYes 15 rfl (by kernel_rfl) rfl rfl H (fun w H => (?op_binOp)) rfl ?_ | refine OpsD.takeNo 15 rfl (by kernel_rfl) rfl rfl H rfl ?_ | refine OpsD.takeOff 15 rfl (by kernel_rfl) rfl rfl H rfl ?_
        refine OpsD.take 16 rfl (by kernel_rfl) H (fun w H => (by first | exact Ev.pickT rfl rfl | exact Ev.pickF rfl rfl)) rfl ?_
        refine OpsD.done (by kernel_rfl) ?_
        repeat refine RunsE.seq ?_
        refine RunsE.no rfl ?_
        refine RunsE.exit rfl ?_
        exact next k _ _ ⟨by omega, H⟩ ⟨rfl, rfl, rfl, rfl, rfl, rfl, trivial⟩
      have hkl : k < acc.length := by omega
      obtain ⟨y, hy⟩ : ∃ y, acc[k]? = some y := ⟨acc[k], List.getElem?_eq_getElem hkl⟩
      obtain ⟨bk, ok, rfl, haty⟩ := hrd.elS (fun _ => rfl) hy
      have hnx := takeWhile_next hk hy
      repeat (first | refine .seq ?_ | refine .skip ?_ | refine .block ?_ | refine .inBlock ?_ | refine .yes rfl ?_ | refine .no rfl ?_ | refine .exit rfl ?_)
      refine RunsE.drawS H [] (by kernel_rfl) ?_; (try clear H); intro w H
      refine OpsD.take 0 rfl (by kernel_rfl) H (fun w H => Ev.move rfl) rfl ?_
      refine OpsD.take 1 rfl (by kernel_rfl) H (fun w H => Ev.move rfl) rfl ?_
      refine OpsD.take 2 rfl (by kernel_rfl) H (fun w H => Ev.lenSl (d := 104) rfl rfl (by kernel_rfl)) rfl ?_
      refine OpsD.take 3 rfl (by kernel_rfl) H (fun w H => Ev.lss (r := true) rfl rfl (decide_eq_true (by omega))) rfl ?_
      refine OpsD.take 4 rfl (by kernel_rfl) H (fun w H => Ev.move rfl) rfl ?_
      first | refine OpsD.takeYes 5 rfl (by kernel_rfl) rfl rfl H (fun w H => Ev.move rfl) rfl ?_ | refine OpsD.takeNo 5 rfl (by kernel_rfl) rfl rfl H rfl ?_ | refine OpsD.takeOff 5 rfl (by kernel_rfl) rfl rfl H rfl ?_
      first | refine OpsD.takeYes 6 rfl (by kernel_rfl) rfl rfl H (fun w H => Ev.move rfl) rfl ?_ | refine OpsD.takeNo 6 rfl (by kernel_rfl) rfl rfl H rfl ?_ | refine OpsD.takeOff 6 rfl (by kernel_rfl) rfl rfl H rfl ?_
      first | refine OpsD.takeYes 7 rfl (by kernel_rfl) rfl rfl H (fun w H => Ev.iaSl (n := 104) (sz := 3) (m := k) (o := ok + k * 3) rfl rfl rfl (by kernel_rfl) hkl) rfl ?_ | refine OpsD.takeNo 7 rfl (by kernel_rfl) rfl rfl H rfl ?_ | refine OpsD.takeOff 7 rfl (by kernel_rfl) rfl rfl H rfl ?_
      first | refine OpsD.takeYes 8 rfl (by kernel_rfl) rfl rfl H (fun w H => Ev.fieldAddr (o := 0) (o' := ok + k * 3 + 0) rfl (by kernel_rfl) (by omega)) rfl ?_ | refine OpsD.takeNo 8 rfl (by kernel_rfl) rfl rfl H rfl ?_ | refine OpsD.takeOff 8 rfl (by kernel_rfl) rfl rfl H rfl ?_
      first | refine OpsD.takeYes 9 rfl (by kernel_rfl) rfl rfl H (fun w H => Ev.load (v := sV y.key) H rfl (by kernel_rfl) (haty 0 _ rfl)) rfl ?_ | refine OpsD.takeNo 9 rfl (by kernel_rfl) rfl rfl H rfl ?_ | refine OpsD.takeOff 9 rfl (by kernel_rfl) rfl rfl H rfl ?_
      first | refine OpsD.takeYes 10 rfl (by kernel_rfl) rfl rfl H (fun w H => Ev.move rfl) rfl ?_ | refine OpsD.takeNo 10 rfl (by kernel_rfl) rfl rfl H rfl ?_ | refine OpsD.takeOff 10 rfl (by kernel_rfl) rfl rfl H rfl ?_
      first | refine OpsD.takeYes 11 rfl (by kernel_rfl) rfl rfl H (fun w H => Ev.move rfl) rfl ?_ | refine OpsD.takeNo 11 rfl (by kernel_rfl) rfl rfl H rfl ?_ | refine OpsD.takeOff 11 rfl (by kernel_rfl) rfl rfl H rfl ?_
      first | refine OpsD.takeYes 12 rfl (by kernel_rfl) rfl rfl H (fun w H => Ev.iaSl (n := 104) (sz := 3) (m := i) (o := oc + i * 3) rfl rfl rfl (by kernel_rfl) hil) rfl ?_ | refine OpsD.takeNo 12 rfl (by kernel_rfl) rfl rfl H rfl ?_ | refine OpsD.takeOff 12 rfl (by kernel_rfl) rfl rfl H rfl ?_
      first | refine OpsD.takeYes 13 rfl (by kernel_rfl) rfl rfl H (fun w H => Ev.fieldAddr (o := 0) (o' := oc + i * 3 + 0) rfl (by kernel_rfl) (by omega)) rfl ?_ | refine OpsD.takeNo 13 rfl (by kernel_rfl) rfl rfl H rfl ?_ | refine OpsD.takeOff 13 rfl (by kernel_rfl) rfl rfl H rfl ?_
      first | refine OpsD.takeYes 14 rfl (by kernel_rfl) rfl rfl H (fun w H => Ev.load (v := sV x.key) H rfl (by kernel_rfl) (hat 0 _ rfl).right) rfl ?_ | refine OpsD.takeNo 14 rfl (by kernel_rfl) rfl rfl H rfl ?_ | refine OpsD.takeOff 14 rfl (by kernel_rfl) rfl rfl H rfl ?_
      first | refine OpsD.takeYes 15 rfl (by kernel_rfl) rfl rfl H (fun w H => Ev.strLss (cs := y.key) (bs := x.key) rfl rfl rfl) rfl ?_ | refine OpsD.takeNo 15 rfl (by kernel_rfl) rfl rfl H rfl ?_ | refine OpsD.takeOff 15 rfl (by kernel_rfl) rfl rfl H rfl ?_
      refine OpsD.take 16 rfl (by kernel_rfl) H (fun w H => (by first | exact Ev.pickT rfl rfl | exact Ev.pickF rfl rfl)) rfl ?_
      refine OpsD.done (by kernel_rfl) ?_
      by_cases h2 : y.key < x.key
      · clear next
        repeat refine RunsE.seq ?_
        refine RunsE.yes (by rw [decide_eq_true h2]; rfl) ?_
        repeat (first | refine .seq ?_ | refine .skip ?_ | refine .block ?_ | refine .inBlock ?_ | refine .yes rfl ?_ | refine .no rfl ?_ | refine .exit rfl ?_)
        repeat (first | refine .seq ?_ | refine .skip ?_ | refine .block ?_ | refine .inBlock ?_ | refine .yes rfl ?_ | refine .no rfl ?_ | refine .exit rfl ?_)
        refine RunsE.region ?_
        refine OpsE.ev (Ev.move rfl) rfl ?_
        refine OpsE.ev (Ev.add rfl rfl) rfl ?_
        refine OpsE.ev (Ev.assign rfl) rfl ?_
        refine OpsE.nil ?_
        refine RunsE.inBlock ?_
        exact nextL (k + 1) _ _ (by omega) ⟨hnx.1 (by rw [hp]; exact decide_eq_true h2), H⟩ ⟨rfl, rfl, rfl, rfl, rfl, rfl, trivial⟩
      · repeat refine RunsE.seq ?_
        refine RunsE.no (by rw [decide_eq_false h2]; rfl) ?_
        refine RunsE.exit rfl ?_
        exact next k _ _ ⟨(hnx.2 (by rw [hp]; exact decide_eq_false h2)).symm, H⟩ ⟨rfl, rfl, rfl, rfl, rfl, rfl, trivial⟩
    clear H
    rintro k w ⟨hk, H⟩
    obtain ⟨X0, hX0⟩ : ∃ X0, X0 = B ++ X := ⟨_, rfl⟩
    rw [← hX0] at H hrd
    have hat0 : ∀ {Q : List (Nat × Obj)}, ∀ (j : Nat) u, (gC x)[j]? = some u → Rd (Q ++ X0) ⟨bc, oc + i * 3 + j, none⟩ u := fun {Q} j u hj => by rw [hX0]; exact ((hat j u hj).right).right
    have hkl : k ≤ acc.length := by omega
    have htw := take_tw (p := p) acc
    rw [← hk] at htw
    have hts := RdS.takeS (k := k) hrd (fun _ => rfl) hkl
    have hds := RdS.dropS (k := k) hrd (fun _ => rfl) hkl
    have htl : (acc.take k).length = k := by rw [List.length_take]; omega
    have hdl : (acc.drop k).length = acc.length - k := List.length_drop
    obtain ⟨acc', hacc'⟩ : ∃ acc', acc' = acc.take k ++ [x] ++ acc.drop k := ⟨_, rfl⟩
    have hins : insK Ch.key acc x = acc' := by
      rw [hacc', htw.1, htw.2, insK, hp]; simp
    have hal : acc'.length = acc.length + 1 := by rw [← hins, (insK_perm Ch.key acc x).length_eq]; rfl
    rw [hins] at hrest
    clear hk
    repeat (first | refine .seq ?_ | refine .skip ?_ | refine .block ?_ | refine .inBlock ?_ | refine .yes rfl ?_ | refine .no rfl ?_ | refine .exit rfl ?_)
    refine RunsE.region ?_
    refine OpsE.ev (Ev.assign rfl) rfl ?_
    refine OpsE.nil ?_
    repeat refine RunsE.seq ?_
    refine RunsE.join (fun v : Value => [(0, .slice al l.length cl), (1, .int .i64 (count : Int)), (2, .slice (some ⟨bc, oc, none⟩) cs.length cc), (10, v), (11, .int .i64 (i : Int))])
      (fun v w => ∃ B, Slc gC 3 104 v acc' B ∧ SL w (B ++ X0)) (fun next => ?_) ?_
    · clear nextL
      repeat (first | refine .seq ?_ | refine .skip ?_ | refine .block ?_ | refine .inBlock ?_ | refine .yes rfl ?_ | refine .no rfl ?_ | refine .exit rfl ?_)
      refine RunsE.drawS H [15] (by kernel_rfl) ?_; (try clear H); intro w H
      refine OpsD.take 0 rfl (by kernel_rfl) H (fun w H => Ev.move rfl) rfl ?_
      refine OpsD.take 1 rfl (by kernel_rfl) H (fun w H => Ev.move rfl) rfl ?_
      refine OpsD.take 2 rfl (by kernel_rfl) H (fun w H => Ev.move rfl) rfl ?_
      refine OpsD.take 3 rfl (by kernel_rfl) H (fun w H => Ev.slSl (el := 104) (sz := 3) (l := 0) (h := k) rfl (by kernel_rfl) rfl ⟨_, rfl⟩ (by omega) (by omega)) rfl ?_
      refine OpsD.take 5 rfl (by kernel_rfl) H (fun w H => Ev.move rfl) rfl ?_
      refine OpsD.take 6 rfl (by kernel_rfl) H (fun w H => Ev.move rfl) rfl ?_
      refine OpsD.take 7 rfl (by kernel_rfl) H (fun w H => Ev.iaSl (n := 104) (sz := 3) (m := i) (o := oc + i * 3) rfl rfl rfl (by kernel_rfl) hil) rfl ?_
      refine OpsD.take 8 rfl (by kernel_rfl) H (fun w H => Ev.loadAgg (vs := gC x) H rfl (by kernel_rfl) (by first | exact (fun j v hj => by rw [add_none]; exact hat0 (Q := []) j v hj) | exact (fun j v hj => by rw [add_none]; exact hat0 j v hj))) rfl ?_
      refine OpsD.take 11 rfl (by kernel_rfl) H (fun w H => Ev.move rfl) rfl ?_
      refine OpsD.take 12 rfl (by kernel_rfl) H (fun w H => Ev.move rfl) rfl ?_
      refine OpsD.take 13 rfl (by kernel_rfl) H (fun w H => Ev.slSl (el := 104) (sz := 3) (l := k) (h := acc.length) rfl (by kernel_rfl) ⟨_, rfl⟩ rfl (by omega) (by omega)) rfl ?_
      refine OpsD.two 4 9 (by kernel_rfl) (StepD.ex rfl (Ex.append (T := 104) (g := gC) (sz := 3) (by_ := 40) (zv := .agg #[.string .empty, .string .empty, .bool false]) (xs := []) (ys := acc.take k) (B := []) H rfl rfl .nil (RdS.src H (hts.sub (by first | exact fun p hp => hp | exact fun p hp => .tail _ hp))) (fun _ => rfl) gC_one (by kernel_rfl) (by kernel_rfl) (by kernel_rfl) (by kernel_rfl) rfl (by simp only [List.length_nil]; omega) (by simp only [List.length_nil]; omega)) rfl ?_) (StepD.ex rfl (Ex.buildSlP (len := 1) (sz := 3) (T := 104) (zv := .agg #[.string .empty, .string .empty, .bool false]) (cs := gC x) H rfl (by kernel_rfl) (by kernel_rfl) rfl (by decide) (by decide)) rfl ?_)
      · (try clear H); rintro v1 w ⟨B1, hs1, H⟩; rw [List.nil_append] at hs1; refine ⟨(by first | exact H | exact H.drop | exact H.drop.drop | exact H.dropL | exact H.drop.dropL | exact H.dropL.drop | exact H.dropL.dropL | exact H.dropMid), ?_⟩
        refine OpsD.one 9 (by kernel_rfl) (StepD.ex rfl (Ex.buildSlP (len := 1) (sz := 3) (T := 104) (zv := .agg #[.string .empty, .string .empty, .bool false]) (cs := gC x) H rfl (by kernel_rfl) (by kernel_rfl) rfl (by decide) (by decide)) rfl ?_); (try clear H); rintro _ w ⟨b29, rfl, H⟩; refine ⟨(by first | exact H | exact H.drop | exact H.drop.drop | exact H.dropL | exact H.drop.dropL | exact H.dropL.drop | exact H.dropL.dropL | exact H.dropMid), ?_⟩
        refine OpsD.one 10 (by kernel_rfl) (StepD.ex rfl (Ex.append (T := 104) (g := gC) (sz := 3) (by_ := 40) (zv := .agg #[.string .empty, .string .empty, .bool false]) (xs := acc.take k) (ys := [x]) (B := B1) (L := X0) (by first | exact H.drop | exact H.dropMid) rfl rfl hs1 (by first | exact Src.row0 H m0 rfl | exact Src.row0 H (List.mem_append_right _ m0) rfl) (fun _ => rfl) gC_one (by kernel_rfl) (by kernel_rfl) (by kernel_rfl) (by kernel_rfl) rfl (by simp only [List.length_singleton]; omega) (by simp only [List.length_singleton]; omega)) rfl ?_); (try clear H); rintro v2 w ⟨B2, hs2, H⟩; refine ⟨(by first | exact H | exact H.drop | exact H.drop.drop | exact H.dropL | exact H.drop.dropL | exact H.dropL.drop | exact H.dropL.dropL | exact H.dropMid), ?_⟩
        refine OpsD.one 14 (by kernel_rfl) (StepD.ex rfl (Ex.append (T := 104) (g := gC) (sz := 3) (by_ := 40) (zv := .agg #[.string .empty, .string .empty, .bool false]) (xs := acc.take k ++ [x]) (ys := acc.drop k) (B := B2) (L := X0) H rfl rfl hs2 (RdS.src H (hds.sub fun p hp => List.mem_append_right _ hp)) (fun _ => rfl) gC_one (by kernel_rfl) (by kernel_rfl) (by kernel_rfl) (by kernel_rfl) rfl (by simp only [List.length_append, List.length_singleton]; omega) (by simp only [List.length_append, List.length_singleton]; omega)) rfl ?_); (try clear H); rintro v3 w ⟨B3, hs3, H⟩; rw [← hacc'] at hs3; refine ⟨(by first | exact H | exact H.drop | exact H.drop.drop | exact H.dropL | exact H.drop.dropL | exact H.dropL.drop | exact H.dropL.dropL | exact H.dropMid), ?_⟩
        refine OpsD.one 15 (by kernel_rfl) (StepD.exT rfl rfl (Ev.ex (Ev.assign rfl)) rfl ?_); rintro _ _ ⟨rfl, rfl⟩
        refine OpsD.done (by kernel_rfl) ?_
        exact next v3 _ _ ⟨B3, hs3, H⟩ ⟨rfl, rfl, rfl, rfl, rfl, trivial⟩
      · (try clear H); rintro _ w ⟨b29, rfl, H⟩; refine ⟨(by first | exact H | exact H.drop | exact H.drop.drop | exact H.dropL | exact H.drop.dropL | exact H.dropL.drop | exact H.dropL.dropL | exact H.dropMid), ?_⟩
        refine OpsD.one 4 (by kernel_rfl) (StepD.ex rfl (Ex.append (T := 104) (g := gC) (sz := 3) (by_ := 40) (zv := .agg #[.string .empty, .string .empty, .bool false]) (xs := []) (ys := acc.take k) (B := []) H rfl rfl .nil (RdS.src H (hts.sub (by first | exact fun p hp => hp | exact fun p hp => .tail _ hp))) (fun _ => rfl) gC_one (by kernel_rfl) (by kernel_rfl) (by kernel_rfl) (by kernel_rfl) rfl (by simp only [List.length_nil]; omega) (by simp only [List.length_nil]; omega)) rfl ?_); (try clear H); rintro v1 w ⟨B1, hs1, H⟩; rw [List.nil_append] at hs1; refine ⟨(by first | exact H | exact H.drop | exact H.drop.drop | exact H.dropL | exact H.drop.dropL | exact H.dropL.drop | exact H.dropL.dropL | exact H.dropMid), ?_⟩
        refine OpsD.one 10 (by kernel_rfl) (StepD.ex rfl (Ex.append (T := 104) (g := gC) (sz := 3) (by_ := 40) (zv := .agg #[.string .empty, .string .empty, .bool false]) (xs := acc.take k) (ys := [x]) (B := B1) (L := X0) (by first | exact H.drop | exact H.dropMid) rfl rfl hs1 (by first | exact Src.row0 H m0 rfl | exact Src.row0 H (List.mem_append_right _ m0) rfl) (fun _ => rfl) gC_one (by kernel_rfl) (by kernel_rfl) (by kernel_rfl) (by kernel_rfl) rfl (by simp only [List.length_singleton]; omega) (by simp only [List.length_singleton]; omega)) rfl ?_); (try clear H); rintro v2 w ⟨B2, hs2, H⟩; refine ⟨(by first | exact H | exact H.drop | exact H.drop.drop | exact H.dropL | exact H.drop.dropL | exact H.dropL.drop | exact H.dropL.dropL | exact H.dropMid), ?_⟩
        refine OpsD.one 14 (by kernel_rfl) (StepD.ex rfl (Ex.append (T := 104) (g := gC) (sz := 3) (by_ := 40) (zv := .agg #[.string .empty, .string .empty, .bool false]) (xs := acc.take k ++ [x]) (ys := acc.drop k) (B := B2) (L := X0) H rfl rfl hs2 (RdS.src H (hds.sub fun p hp => List.mem_append_right _ hp)) (fun _ => rfl) gC_one (by kernel_rfl) (by kernel_rfl) (by kernel_rfl) (by kernel_rfl) rfl (by simp only [List.length_append, List.length_singleton]; omega) (by simp only [List.length_append, List.length_singleton]; omega)) rfl ?_); (try clear H); rintro v3 w ⟨B3, hs3, H⟩; rw [← hacc'] at hs3; refine ⟨(by first | exact H | exact H.drop | exact H.drop.drop | exact H.dropL | exact H.drop.dropL | exact H.dropL.drop | exact H.dropL.dropL | exact H.dropMid), ?_⟩
        refine OpsD.one 15 (by kernel_rfl) (StepD.exT rfl rfl (Ev.ex (Ev.assign rfl)) rfl ?_); rintro _ _ ⟨rfl, rfl⟩
        refine OpsD.done (by kernel_rfl) ?_
        exact next v3 _ _ ⟨B3, hs3, H⟩ ⟨rfl, rfl, rfl, rfl, rfl, trivial⟩
    clear H
    rintro v w ⟨B2, hs2, H⟩
    rw [hX0] at H
    refine RunsE.inBlock ?_
    repeat (first | refine .seq ?_ | refine .skip ?_ | refine .block ?_ | refine .inBlock ?_ | refine .yes rfl ?_ | refine .no rfl ?_ | refine .exit rfl ?_)
    refine RunsE.region ?_
    refine OpsE.ev (Ev.move rfl) rfl ?_
    refine OpsE.ev (Ev.add rfl rfl) rfl ?_
    refine OpsE.ev (Ev.assign rfl) rfl ?_
    refine OpsE.nil ?_
    exact nextL (i + 1, v, acc') _ _ (by simp only; omega) ⟨by simp only; omega, hrest, by simp only; omega, B2, hs2, H.dropIn⟩ ⟨rfl, rfl, rfl, rfl, rfl, trivial⟩
  clear H hch1
  rintro v w ⟨Bc, hs, H⟩
  obtain ⟨av, cv, rfl, hcv⟩ := hs.leCap
  have hrd : RdS (Bc ++ X) 3 (.slice av ch.length cv) ch.length (ch.flatMap gC) := hs.rdS fun _ => rfl
  have hvl1 : LsAt (Bc ++ X) (.slice al l.length cl) l := hvl.sub fun q hq => List.mem_append_right _ hq
  have hvlY : LsAt (Bc ++ Y) (.slice al l.length cl) l := hvl0.sub fun q hq => List.mem_append_right _ hq
  have hYB : ∀ q ∈ Bc ++ Y, q ∈ Bc ++ X := fun q hq => by
    rcases List.mem_append.1 hq with h | h
    · exact List.mem_append_left _ h
    · exact List.mem_append_right _ (hYX _ h)
  obtain ⟨Y1, hY1⟩ : ∃ Y1, Y1 = Bc ++ Y := ⟨_, rfl⟩
  obtain ⟨X1, hX1⟩ : ∃ X1, X1 = Bc ++ X := ⟨_, rfl⟩
  have hfin : ∀ {w : World} {B : List (Nat × Obj)}, SL w (B ++ X1) → SL w ((B ++ Bc) ++ X) := fun {w B} H => by rw [List.append_assoc, ← hX1]; exact H
  have hfinL : ∀ {B : List (Nat × Obj)} {v : Value} {m : List Lf}, LsAt (B ++ Y1) v m → LsAt ((B ++ Bc) ++ Y) v m := fun {B v m} h => by rw [List.append_assoc, ← hY1]; exact h
  rw [← hX1] at H hrd hvl1
  rw [← hY1] at hvlY
  rw [← hX1, ← hY1] at hYB
  have hBY : ∀ B : List (Nat × Obj), ∀ q ∈ B ++ Y1, q ∈ B ++ X1 := fun B q hq => by
    rcases List.mem_append.1 hq with h | h
    · exact List.mem_append_left _ h
    · exact List.mem_append_right _ (hYB _ h)
  clear hX1 hY1
  repeat (first | refine .seq ?_ | refine .skip ?_ | refine .block ?_ | refine .inBlock ?_ | refine .yes rfl ?_ | refine .no rfl ?_ | refine .exit rfl ?_)
  refine RunsE.region ?_
  refine OpsE.ev (Ev.assign rfl) rfl ?_
  refine OpsE.nil ?_
  repeat (first | refine .seq ?_ | refine .skip ?_ | refine .block ?_ | refine .inBlock ?_ | refine .yes rfl ?_ | refine .no rfl ?_ | refine .exit rfl ?_)
  refine RunsE.region ?_
  refine OpsE.ev (Ev.assign rfl) rfl ?_
  refine OpsE.nil ?_
  obtain ⟨ly, hly⟩ : ∃ ly, ly = ch.filter fun x => !x.gone := ⟨_, rfl⟩
  rw [← hly] at hset hlay
  repeat refine RunsE.seq ?_
  refine RunsE.join (fun _ : Unit => [(0, .slice al l.length cl), (1, .int .i64 (count : Int)), (10, .slice av ch.length cv), (18, .int .i64 (ly.length : Int))])
    (fun _ w => (∀ x ∈ ly, ¬ 4096 < (pageM x.key x.val).length) ∧ SL w X1) (fun next => ?_) ?_
  · refine RunsE.block ?_
    refine RunsE.loop (fun i : Nat => [(0, .slice al l.length cl), (1, .int .i64 (count : Int)), (10, .slice av ch.length cv), (18, .int .i64 (((ch.take i).filter fun x => !x.gone).length : Int)), (19, .int .i64 (i : Int))])
      (fun i w => i ≤ ch.length ∧ (∀ x ∈ (ch.take i).filter fun x => !x.gone, ¬ 4096 < (pageM x.key x.val).length) ∧ SL w X1) (fun i => ch.length - i) 0 ⟨rfl, rfl, rfl, rfl, rfl, trivial⟩ ⟨by omega, by simp, H⟩ ?_
    clear H
    rintro i w ⟨hi, hno, H⟩ nextL
    by_cases h1 : i = ch.length
    ·
      repeat (first | refine .seq ?_ | refine .skip ?_ | refine .block ?_ | refine .inBlock ?_ | refine .yes rfl ?_ | refine .no rfl ?_ | refine .exit rfl ?_)
      refine RunsE.region ?_
      refine OpsE.ev (Ev.move rfl) rfl ?_
      refine OpsE.ev (Ev.move rfl) rfl ?_
      refine OpsE.ev (Ev.lenSl (d := 104) rfl rfl (by kernel_rfl)) rfl ?_
      refine OpsE.ev (Ev.lss (r := false) rfl rfl (decide_eq_false (by omega))) rfl ?_
      refine OpsE.nil ?_
      repeat refine RunsE.seq ?_
      refine RunsE.no rfl ?_
      refine RunsE.exit rfl ?_
      rw [h1, List.take_length, ← hly] at hno
      exact next () _ _ ⟨hno, H⟩ ⟨rfl, rfl, rfl, by rw [h1, List.take_length, ← hly]; rfl, trivial⟩
    clear next
    have hil : i < ch.length := by omega
    obtain ⟨x, hx⟩ : ∃ x, ch[i]? = some x := ⟨ch[i], List.getElem?_eq_getElem hil⟩
    have hxm := List.mem_of_getElem? hx
    have hxb := hchb x hxm
    obtain ⟨bk, ok, rfl, hat⟩ := hrd.elS (fun _ => rfl) hx
    have ht : ch.take (i + 1) = ch.take i ++ [x] := by rw [List.take_add_one, hx]; rfl
    have hfli : ((ch.take i).filter fun x => !x.gone).length ≤ ch.length := Nat.le_trans (List.length_filter_le _ _) (by rw [List.length_take]; omega)
    repeat (first | refine .seq ?_ | refine .skip ?_ | refine .block ?_ | refine .inBlock ?_ | refine .yes rfl ?_ | refine .no rfl ?_ | refine .exit rfl ?_)
    refine RunsE.region ?_
    refine OpsE.ev (Ev.move rfl) rfl ?_
    refine OpsE.ev (Ev.move rfl) rfl ?_
    refine OpsE.ev (Ev.lenSl (d := 104) rfl rfl (by kernel_rfl)) rfl ?_
    refine OpsE.ev (Ev.lss (r := true) rfl rfl (decide_eq_true (by omega))) rfl ?_
    refine OpsE.nil ?_
    repeat (first | refine .seq ?_ | refine .skip ?_ | refine .block ?_ | refine .inBlock ?_ | refine .yes rfl ?_ | refine .no rfl ?_ | refine .exit rfl ?_)
    obtain hg | hg : x.gone = true ∨ x.gone = false := by cases x.gone <;> simp
    · have hgl : Rd X1 ⟨bk, ok + i * 3 + 2, none⟩ (.bool true) := by
        have := hat 2 _ rfl
        rw [hg] at this
        exact this
      have e1 : ((ch.take (i + 1)).filter fun x => !x.gone) = (ch.take i).filter fun x => !x.gone := by rw [ht, List.filter_append]; simp [hg]
      repeat (first | refine .seq ?_ | refine .skip ?_ | refine .block ?_ | refine .inBlock ?_ | refine .yes rfl ?_ | refine .no rfl ?_ | refine .exit rfl ?_)
      refine RunsE.region ?_
      refine OpsE.ev (Ev.move rfl) rfl ?_
      refine OpsE.ev (Ev.move rfl) rfl ?_
      refine OpsE.ev (Ev.iaSl (n := 104) (sz := 3) (m := i) (o := ok + i * 3) rfl rfl rfl (by kernel_rfl) hil) rfl ?_
      refine OpsE.ev (Ev.fieldAddr (o := 2) (o' := ok + i * 3 + 2) rfl (by kernel_rfl) (by omega)) rfl ?_
      refine OpsE.ev (Ev.load (v := .bool true) H rfl (by kernel_rfl) hgl) rfl ?_
      refine OpsE.ev (Ev.not rfl) rfl ?_
      refine OpsE.nil ?_
      repeat refine RunsE.seq ?_
      refine RunsE.no rfl ?_
      refine RunsE.skip ?_
      refine RunsE.inBlock ?_
      repeat (first | refine .seq ?_ | refine .skip ?_ | refine .block ?_ | refine .inBlock ?_ | refine .yes rfl ?_ | refine .no rfl ?_ | refine .exit rfl ?_)
      refine RunsE.region ?_
      refine OpsE.ev (Ev.move rfl) rfl ?_
      refine OpsE.ev (Ev.add rfl rfl) rfl ?_
      refine OpsE.ev (Ev.assign rfl) rfl ?_
      refine OpsE.nil ?_
      exact nextL (i + 1) _ _ (by omega) ⟨by omega, by rw [e1]; exact hno, H⟩ ⟨rfl, rfl, rfl, by rw [e1]; rfl, rfl, trivial⟩
    · have hgl : Rd X1 ⟨bk, ok + i * 3 + 2, none⟩ (.bool false) := by
        have := hat 2 _ rfl
        rw [hg] at this
        exact this
      have e1 : ((ch.take (i + 1)).filter fun x => !x.gone) = ((ch.take i).filter fun x => !x.gone) ++ [x] := by rw [ht, List.filter_append]; simp [hg]
      have hxl : x ∈ ly := by rw [hly]; exact List.mem_filter.2 ⟨hxm, by rw [hg]; rfl⟩
      repeat (first | refine .seq ?_ | refine .skip ?_ | refine .block ?_ | refine .inBlock ?_ | refine .yes rfl ?_ | refine .no rfl ?_ | refine .exit rfl ?_)
      refine RunsE.region ?_
      refine OpsE.ev (Ev.move rfl) rfl ?_
      refine OpsE.ev (Ev.move rfl) rfl ?_
      refine OpsE.ev (Ev.iaSl (n := 104) (sz := 3) (m := i) (o := ok + i * 3) rfl rfl rfl (by kernel_rfl) hil) rfl ?_
      refine OpsE.ev (Ev.fieldAddr (o := 2) (o' := ok + i * 3 + 2) rfl (by kernel_rfl) (by omega)) rfl ?_
      refine OpsE.ev (Ev.load (v := .bool false) H rfl (by kernel_rfl) hgl) rfl ?_
      refine OpsE.ev (Ev.not rfl) rfl ?_
      refine OpsE.nil ?_
      repeat refine RunsE.seq ?_
      refine RunsE.yes rfl ?_
      repeat (first | refine .seq ?_ | refine .skip ?_ | refine .block ?_ | refine .inBlock ?_ | refine .yes rfl ?_ | refine .no rfl ?_ | refine .exit rfl ?_)
      refine RunsE.region ?_
      refine OpsE.ev (Ev.move rfl) rfl ?_
      refine OpsE.ev (Ev.add (c := (((ch.take (i + 1)).filter fun x => !x.gone).length : Int)) rfl rfl (by rw [e1, List.length_append, List.length_singleton, qi64 (by omega) (by omega)]; omega)) rfl ?_
      refine OpsE.ev (Ev.assign rfl) rfl ?_
      refine OpsE.nil ?_
      repeat (first | refine .seq ?_ | refine .skip ?_ | refine .block ?_ | refine .inBlock ?_ | refine .yes rfl ?_ | refine .no rfl ?_ | refine .exit rfl ?_)
      refine RunsE.drawS H [10, 11, 12] (by kernel_rfl) ?_; (try clear H); intro w H
      refine OpsD.take 0 rfl (by kernel_rfl) H (fun w H => Ev.move rfl) rfl ?_
      refine OpsD.take 1 rfl (by kernel_rfl) H (fun w H => Ev.move rfl) rfl ?_
      refine OpsD.take 2 rfl (by kernel_rfl) H (fun w H => Ev.iaSl (n := 104) (sz := 3) (m := i) (o := ok + i * 3) rfl rfl rfl (by kernel_rfl) hil) rfl ?_
      refine OpsD.take 3 rfl (by kernel_rfl) H (fun w H => Ev.fieldAddr (o := 0) (o' := ok + i * 3 + 0) rfl (by kernel_rfl) (by omega)) rfl ?_
      refine OpsD.take 4 rfl (by kernel_rfl) H (fun w H => Ev.load (v := sV x.key) H rfl (by kernel_rfl) (hat 0 _ rfl)) rfl ?_
      refine OpsD.take 5 rfl (by kernel_rfl) H (fun w H => Ev.move rfl) rfl ?_
      refine OpsD.take 6 rfl (by kernel_rfl) H (fun w H => Ev.move rfl) rfl ?_
      refine OpsD.take 7 rfl (by kernel_rfl) H (fun w H => Ev.iaSl (n := 104) (sz := 3) (m := i) (o := ok + i * 3) rfl rfl rfl (by kernel_rfl) hil) rfl ?_
      refine OpsD.take 8 rfl (by kernel_rfl) H (fun w H => Ev.fieldAddr (o := 1) (o' := ok + i * 3 + 1) rfl (by kernel_rfl) (by omega)) rfl ?_
      refine OpsD.take 9 rfl (by kernel_rfl) H (fun w H => Ev.load (v := sV x.val) H rfl (by kernel_rfl) (hat 1 _ rfl)) rfl ?_
      refine OpsD.one 10 (by kernel_rfl) (StepD.exT rfl rfl (Ex.call rfl Tryz.call25 (rpage_spec x.key x.val (by omega) (by omega) w _ H)) rfl ?_); (try clear H); rintro vp w ⟨Bp, hsp, H⟩; obtain ⟨ap, cp, rfl, _⟩ := hsp.leCap; replace H := H.dropL
      refine OpsD.one 11 (by kernel_rfl) (StepD.exT rfl rfl (Ev.ex (Ev.lenSl (d := 5) rfl rfl (by kernel_rfl))) rfl ?_); rintro _ _ ⟨rfl, rfl⟩
      refine OpsD.one 12 (by kernel_rfl) (StepD.exT rfl rfl (Ev.ex (Ev.gtr (r := decide (4096 < (pageM x.key x.val).length)) rfl rfl (by rw [Bool.eq_iff_iff, decide_eq_true_iff, decide_eq_true_iff]; omega))) rfl ?_); rintro _ _ ⟨rfl, rfl⟩
      refine OpsD.done (by kernel_rfl) ?_
      by_cases h2 : 4096 < (pageM x.key x.val).length
      · repeat refine RunsE.seq ?_
        refine RunsE.yes (by rw [decide_eq_true h2]; rfl) ?_
        repeat (first | refine .seq ?_ | refine .skip ?_ | refine .block ?_ | refine .inBlock ?_ | refine .yes rfl ?_ | refine .no rfl ?_ | refine .exit rfl ?_)
        refine RunsE.region ?_
        refine OpsE.ev (Ev.move rfl) rfl ?_
        refine OpsE.ev (Ev.assign rfl) rfl ?_
        refine OpsE.ev (Ev.assign rfl) rfl ?_
        refine OpsE.ev (Ev.assign rfl) rfl ?_
        refine OpsE.ev (Ev.assign rfl) rfl ?_
        refine OpsE.nil ?_
        repeat (first | refine .seq ?_ | refine .skip ?_ | refine .block ?_ | refine .inBlock ?_ | refine .yes rfl ?_ | refine .no rfl ?_ | refine .exit rfl ?_)
        rw [if_pos (List.any_eq_true.2 ⟨x, hxl, decide_eq_true h2⟩)] at hset
        rw [hset]
        exact RunsE.ret4 Tryz.func18 rfl rfl rfl rfl rfl ⟨_, [] ++ Bc, rfl, hfinL (B := []) hvlY, hfin (B := []) H⟩
      · repeat refine RunsE.seq ?_
        refine RunsE.no (by rw [decide_eq_false h2]; rfl) ?_
        refine RunsE.skip ?_
        refine RunsE.inBlock ?_
        repeat (first | refine .seq ?_ | refine .skip ?_ | refine .block ?_ | refine .inBlock ?_ | refine .yes rfl ?_ | refine .no rfl ?_ | refine .exit rfl ?_)
        refine RunsE.region ?_
        refine OpsE.ev (Ev.move rfl) rfl ?_
        refine OpsE.ev (Ev.add rfl rfl) rfl ?_
        refine OpsE.ev (Ev.assign rfl) rfl ?_
        refine OpsE.nil ?_
        refine nextL (i + 1) _ _ (by omega) ⟨by omega, ?_, H⟩ ⟨rfl, rfl, rfl, rfl, rfl, trivial⟩
        rw [e1]
        intro z hz
        rcases List.mem_append.1 hz with hz | hz
        · exact hno z hz
        · obtain rfl := List.mem_singleton.1 hz
          exact h2
  clear H
  rintro _ w ⟨hno, H⟩
  rw [if_neg (by rw [List.any_eq_true]; rintro ⟨x, h1, h2⟩; exact hno x h1 (of_decide_eq_true h2))] at hset
  repeat (first | refine .seq ?_ | refine .skip ?_ | refine .block ?_ | refine .inBlock ?_ | refine .yes rfl ?_ | refine .no rfl ?_ | refine .exit rfl ?_)
  refine RunsE.region ?_
  refine OpsE.ev (Ev.move rfl) rfl ?_
  refine OpsE.ev (Ev.move rfl) rfl ?_
  refine OpsE.ev (Ev.sub (c := (count : Int) - 1) rfl rfl (qi64 (by omega) (by omega))) rfl ?_
  refine OpsE.ev (Ev.move rfl) rfl ?_
  refine OpsE.ev (Ev.lenSl (d := 64) rfl rfl (by kernel_rfl)) rfl ?_
  refine OpsE.ev (Ev.sub (c := (count : Int) - 1 - l.length) rfl rfl (qi64 (by omega) (by omega))) rfl ?_
  refine OpsE.ev (Ev.gtr (r := decide (count - 1 - l.length < ly.length)) rfl rfl (by rw [Bool.eq_iff_iff, decide_eq_true_iff, decide_eq_true_iff]; omega)) rfl ?_
  refine OpsE.nil ?_
  by_cases h1 : count - 1 - l.length < ly.length
  · repeat refine RunsE.seq ?_
    refine RunsE.yes (by rw [decide_eq_true h1]; rfl) ?_
    rw [if_pos h1] at hset
    repeat (first | refine .seq ?_ | refine .skip ?_ | refine .block ?_ | refine .inBlock ?_ | refine .yes rfl ?_ | refine .no rfl ?_ | refine .exit rfl ?_)
    refine RunsE.region ?_
    refine OpsE.ev (Ev.move rfl) rfl ?_
    refine OpsE.ev (Ev.assign rfl) rfl ?_
    refine OpsE.ev (Ev.assign rfl) rfl ?_
    refine OpsE.ev (Ev.assign rfl) rfl ?_
    refine OpsE.ev (Ev.assign rfl) rfl ?_
    refine OpsE.nil ?_
    repeat (first | refine .seq ?_ | refine .skip ?_ | refine .block ?_ | refine .inBlock ?_ | refine .yes rfl ?_ | refine .no rfl ?_ | refine .exit rfl ?_)
    rw [hset]
    exact RunsE.ret4 Tryz.func18 rfl rfl rfl rfl rfl ⟨_, [] ++ Bc, rfl, hfinL (B := []) hvlY, hfin (B := []) H⟩
  repeat refine RunsE.seq ?_
  refine RunsE.no (by rw [decide_eq_false h1]; rfl) ?_
  rw [if_neg h1] at hset
  repeat (first | refine .seq ?_ | refine .skip ?_ | refine .block ?_ | refine .inBlock ?_ | refine .yes rfl ?_ | refine .no rfl ?_ | refine .exit rfl ?_)
  refine RunsE.region ?_
  refine OpsE.ev (Ev.move rfl) rfl ?_
  refine OpsE.ev (Ev.assign rfl) rfl ?_
  refine OpsE.ev (Ev.assign rfl) rfl ?_
  refine OpsE.nil ?_
  repeat (first | refine .seq ?_ | refine .skip ?_ | refine .block ?_ | refine .inBlock ?_ | refine .yes rfl ?_ | refine .no rfl ?_ | refine .exit rfl ?_)
  refine RunsE.region ?_
  refine OpsE.ev (Ev.assign rfl) rfl ?_
  refine OpsE.nil ?_
  have hM1 : applyM l ch (frM l count 1) = applyM l ch (freeM l count) := by rw [frM_one]
  have hM2 : (ch.filter fun x => !x.gone).length ≤ (frM l count 1).length := by rw [frM_one, hfl.1, ← hly]; omega
  generalize applyM l ch (freeM l count) = M at *
  repeat refine RunsE.seq ?_
  refine RunsE.join (fun v : Value => [(10, .slice av ch.length cv), (18, .int .i64 (ly.length : Int)), (20, v)])
    (fun v w => ∃ B, LsAt (B ++ Y1) v M ∧ SL w (B ++ X1)) (fun next => ?_) ?_
  · refine RunsE.block ?_
    refine RunsE.loop (fun s : Nat × Value × List Lf × Nat => [(0, .slice al l.length cl), (10, .slice av ch.length cv), (18, .int .i64 (ly.length : Int)), (20, s.2.1), (21, .int .i64 (s.2.2.2 : Int)), (22, .int .i64 (s.1 : Int))])
      (fun s w => s.1 ≤ ch.length ∧ s.2.2.2 ≤ count ∧ applyM s.2.2.1 (ch.drop s.1) (frM l count s.2.2.2) = M ∧ ((ch.drop s.1).filter fun x => !x.gone).length ≤ (frM l count s.2.2.2).length ∧ s.2.2.1.length ≤ 1000 + s.1 ∧ ∃ B, LsAt (B ++ Y1) s.2.1 s.2.2.1 ∧ SL w (B ++ X1))
      (fun s => ch.length - s.1) (0, .slice al l.length cl, l, 1) ⟨rfl, rfl, rfl, rfl, rfl, rfl, trivial⟩ ⟨by simp only; omega, hc1, hM1, hM2, by simp only; omega, [], hvlY, H⟩ ?_
    clear H hM1 hM2
    rintro ⟨i, vn, now, nx⟩ w ⟨hi, hnx, hM, hle, hnl, B, hvn, H⟩ nextL
    simp only at hi hnx hM hle hnl hvn
    by_cases h2 : i = ch.length
    ·
      repeat (first | refine .seq ?_ | refine .skip ?_ | refine .block ?_ | refine .inBlock ?_ | refine .yes rfl ?_ | refine .no rfl ?_ | refine .exit rfl ?_)
      refine RunsE.region ?_
      refine OpsE.ev (Ev.move rfl) rfl ?_
      refine OpsE.ev (Ev.move rfl) rfl ?_
      refine OpsE.ev (Ev.lenSl (d := 104) rfl rfl (by kernel_rfl)) rfl ?_
      refine OpsE.ev (Ev.lss (r := false) rfl rfl (decide_eq_false (by simp only; omega))) rfl ?_
      refine OpsE.nil ?_
      repeat refine RunsE.seq ?_
      refine RunsE.no rfl ?_
      refine RunsE.exit rfl ?_
      rw [h2, List.drop_length] at hM
      have e1 : now = M := by rw [← hM]; unfold applyM; rfl
      rw [e1] at hvn
      exact next _ _ _ ⟨B, hvn, H⟩ ⟨rfl, rfl, rfl, trivial⟩
    clear next
    have hil : i < ch.length := by omega
    obtain ⟨x, hx⟩ : ∃ x, ch[i]? = some x := ⟨ch[i], List.getElem?_eq_getElem hil⟩
    obtain ⟨bk, ok, rfl, hat⟩ := hrd.elS (fun _ => rfl) hx
    rw [drop_some hx] at hM hle
    have hdl := delL_len now x.key
    repeat (first | refine .seq ?_ | refine .skip ?_ | refine .block ?_ | refine .inBlock ?_ | refine .yes rfl ?_ | refine .no rfl ?_ | refine .exit rfl ?_)
    refine RunsE.region ?_
    refine OpsE.ev (Ev.move rfl) rfl ?_
    refine OpsE.ev (Ev.move rfl) rfl ?_
    refine OpsE.ev (Ev.lenSl (d := 104) rfl rfl (by kernel_rfl)) rfl ?_
    refine OpsE.ev (Ev.lss (r := true) rfl rfl (decide_eq_true (by simp only; omega))) rfl ?_
    refine OpsE.nil ?_
    repeat (first | refine .seq ?_ | refine .skip ?_ | refine .block ?_ | refine .inBlock ?_ | refine .yes rfl ?_ | refine .no rfl ?_ | refine .exit rfl ?_)
    repeat (first | refine .seq ?_ | refine .skip ?_ | refine .block ?_ | refine .inBlock ?_ | refine .yes rfl ?_ | refine .no rfl ?_ | refine .exit rfl ?_)
    refine RunsE.region ?_
    refine OpsE.ev (Ev.move rfl) rfl ?_
    refine OpsE.ev (Ev.move rfl) rfl ?_
    refine OpsE.ev (Ev.move rfl) rfl ?_
    refine OpsE.ev (Ev.iaSl (n := 104) (sz := 3) (m := i) (o := ok + i * 3) rfl rfl rfl (by kernel_rfl) hil) rfl ?_
    refine OpsE.ev (Ev.fieldAddr (o := 0) (o' := ok + i * 3 + 0) rfl (by kernel_rfl) (by omega)) rfl ?_
    refine OpsE.ev (Ev.load (v := sV x.key) H rfl (by kernel_rfl) (hat 0 _ rfl).right) rfl ?_
    refine OpsE.ex (Ex.call rfl Tryz.call57 (without_spec now x.key vn (by omega) w _ (hvn.sub (hBY B)) H)) rfl ?_; (try clear H); rintro v1 w ⟨B1, hs1, H⟩; replace H := H.dropIn
    refine OpsE.ev (Ev.assign rfl) rfl ?_
    refine OpsE.nil ?_
    have hv1 : LsAt (B1 ++ Y1) v1 (delL now x.key) := hs1.rdS gL_len
    obtain hg | hg : x.gone = true ∨ x.gone = false := by cases x.gone <;> simp
    · have hgl : Rd X1 ⟨bk, ok + i * 3 + 2, none⟩ (.bool true) := by
        have := hat 2 _ rfl
        rw [hg] at this
        exact this
      rw [apply_gone hg] at hM
      rw [List.filter_cons, hg] at hle
      repeat (first | refine .seq ?_ | refine .skip ?_ | refine .block ?_ | refine .inBlock ?_ | refine .yes rfl ?_ | refine .no rfl ?_ | refine .exit rfl ?_)
      refine RunsE.region ?_
      refine OpsE.ev (Ev.move rfl) rfl ?_
      refine OpsE.ev (Ev.move rfl) rfl ?_
      refine OpsE.ev (Ev.iaSl (n := 104) (sz := 3) (m := i) (o := ok + i * 3) rfl rfl rfl (by kernel_rfl) hil) rfl ?_
      refine OpsE.ev (Ev.fieldAddr (o := 2) (o' := ok + i * 3 + 2) rfl (by kernel_rfl) (by omega)) rfl ?_
      refine OpsE.ev (Ev.load (v := .bool true) H rfl (by kernel_rfl) hgl.right) rfl ?_
      refine OpsE.nil ?_
      repeat refine RunsE.seq ?_
      refine RunsE.yes rfl ?_
      refine RunsE.exit rfl ?_
      repeat (first | refine .seq ?_ | refine .skip ?_ | refine .block ?_ | refine .inBlock ?_ | refine .yes rfl ?_ | refine .no rfl ?_ | refine .exit rfl ?_)
      refine RunsE.region ?_
      refine OpsE.ev (Ev.move rfl) rfl ?_
      refine OpsE.ev (Ev.add rfl rfl) rfl ?_
      refine OpsE.ev (Ev.assign rfl) rfl ?_
      refine OpsE.nil ?_
      exact nextL (i + 1, v1, delL now x.key, nx) _ _ (by simp only; omega) ⟨by simp only; omega, hnx, hM, hle, by simp only; omega, B1, hv1, H⟩ ⟨rfl, rfl, rfl, rfl, rfl, rfl, trivial⟩
    have hgl : Rd X1 ⟨bk, ok + i * 3 + 2, none⟩ (.bool false) := by
      have := hat 2 _ rfl
      rw [hg] at this
      exact this
    rw [List.filter_cons, hg] at hle
    simp only [Bool.not_false, if_true, List.length_cons] at hle
    repeat (first | refine .seq ?_ | refine .skip ?_ | refine .block ?_ | refine .inBlock ?_ | refine .yes rfl ?_ | refine .no rfl ?_ | refine .exit rfl ?_)
    refine RunsE.region ?_
    refine OpsE.ev (Ev.move rfl) rfl ?_
    refine OpsE.ev (Ev.move rfl) rfl ?_
    refine OpsE.ev (Ev.iaSl (n := 104) (sz := 3) (m := i) (o := ok + i * 3) rfl rfl rfl (by kernel_rfl) hil) rfl ?_
    refine OpsE.ev (Ev.fieldAddr (o := 2) (o' := ok + i * 3 + 2) rfl (by kernel_rfl) (by omega)) rfl ?_
    refine OpsE.ev (Ev.load (v := .bool false) H rfl (by kernel_rfl) hgl.right) rfl ?_
    refine OpsE.nil ?_
    repeat refine RunsE.seq ?_
    refine RunsE.no rfl ?_
    refine RunsE.skip ?_
    repeat refine RunsE.seq ?_
    refine RunsE.join (fun n : Nat => [(0, .slice al l.length cl), (10, .slice (some ⟨bk, ok, none⟩) ch.length cv), (18, .int .i64 (ly.length : Int)), (20, v1), (21, .int .i64 (n : Int)), (22, .int .i64 (i : Int))])
      (fun n w => n < count ∧ frM l count nx = n :: frM l count (n + 1) ∧ SL w (B1 ++ X1)) (fun next => ?_) ?_
    · refine RunsE.block ?_
      refine RunsE.loop (fun n : Nat => [(0, .slice al l.length cl), (10, .slice (some ⟨bk, ok, none⟩) ch.length cv), (18, .int .i64 (ly.length : Int)), (20, v1), (21, .int .i64 (n : Int)), (22, .int .i64 (i : Int))])
        (fun n w => n ≤ count ∧ frM l count nx = frM l count n ∧ SL w (B1 ++ X1)) (fun n => count - n) nx ⟨rfl, rfl, rfl, rfl, rfl, rfl, trivial⟩ ⟨hnx, rfl, H⟩ ?_
      clear H nextL
      rintro n w ⟨hn, hfr, H⟩ nextL
      have hnc : n < count := by
        rcases Nat.lt_or_ge n count with h | h
        · exact h
        · rw [hfr, frM_end h] at hle
          simp at hle
      rw [frM_step hnc] at hfr
      repeat (first | refine .seq ?_ | refine .skip ?_ | refine .block ?_ | refine .inBlock ?_ | refine .yes rfl ?_ | refine .no rfl ?_ | refine .exit rfl ?_)
      refine RunsE.region ?_
      refine OpsE.ev (Ev.move rfl) rfl ?_
      refine OpsE.ev (Ev.move rfl) rfl ?_
      refine OpsE.ex (Ex.call rfl Tryz.call58 (used_spec l n _ (by omega) w _ (hvl1.sub fun q hq => List.mem_append_right _ hq) H)) rfl ?_; (try clear H); rintro _ w ⟨rfl, H⟩
      refine OpsE.nil ?_
      obtain hu | hu : (l.any fun y => decide (y.place = n)) = true ∨ (l.any fun y => decide (y.place = n)) = false := by cases (l.any fun y => decide (y.place = n)) <;> simp
      · clear next
        rw [hu, if_pos rfl] at hfr
        repeat refine RunsE.seq ?_
        refine RunsE.yes (congrArg (fun b => some (Value.bool b)) hu) ?_
        repeat (first | refine .seq ?_ | refine .skip ?_ | refine .block ?_ | refine .inBlock ?_ | refine .yes rfl ?_ | refine .no rfl ?_ | refine .exit rfl ?_)
        repeat (first | refine .seq ?_ | refine .skip ?_ | refine .block ?_ | refine .inBlock ?_ | refine .yes rfl ?_ | refine .no rfl ?_ | refine .exit rfl ?_)
        refine RunsE.region ?_
        refine OpsE.ev (Ev.move rfl) rfl ?_
        refine OpsE.ev (Ev.add rfl rfl) rfl ?_
        refine OpsE.ev (Ev.assign rfl) rfl ?_
        refine OpsE.nil ?_
        refine RunsE.inBlock ?_
        exact nextL (n + 1) _ _ (by omega) ⟨by omega, hfr, H⟩ ⟨rfl, rfl, rfl, rfl, rfl, rfl, trivial⟩
      · rw [hu, if_neg (by decide)] at hfr
        repeat refine RunsE.seq ?_
        refine RunsE.no (congrArg (fun b => some (Value.bool b)) hu) ?_
        refine RunsE.exit rfl ?_
        exact next n _ _ ⟨hnc, hfr, H⟩ ⟨rfl, rfl, rfl, rfl, rfl, rfl, trivial⟩
    clear H
    rintro n w ⟨hnc, hfr, H⟩
    rw [hfr, apply_laid hg] at hM
    rw [hfr, List.length_cons] at hle
    have hil2 : (insK Lf.key (delL now x.key) ⟨x.key, x.val, n⟩).length = (delL now x.key).length + 1 := (insK_perm Lf.key (delL now x.key) ⟨x.key, x.val, n⟩).length_eq
    repeat (first | refine .seq ?_ | refine .skip ?_ | refine .block ?_ | refine .inBlock ?_ | refine .yes rfl ?_ | refine .no rfl ?_ | refine .exit rfl ?_)
    refine RunsE.drawS H [12, 13, 14] (by kernel_rfl) ?_; (try clear H); intro w H
    refine OpsD.takeU 0 rfl (by kernel_rfl) (fun w => Ev.move rfl) rfl ?_
    refine OpsD.take 1 rfl (by kernel_rfl) H (fun w H => Ev.move rfl) rfl ?_
    refine OpsD.take 2 rfl (by kernel_rfl) H (fun w H => Ev.move rfl) rfl ?_
    refine OpsD.take 3 rfl (by kernel_rfl) H (fun w H => Ev.iaSl (n := 104) (sz := 3) (m := i) (o := ok + i * 3) rfl rfl rfl (by kernel_rfl) hil) rfl ?_
    refine OpsD.take 4 rfl (by kernel_rfl) H (fun w H => Ev.fieldAddr (o := 0) (o' := ok + i * 3 + 0) rfl (by kernel_rfl) (by omega)) rfl ?_
    refine OpsD.take 5 rfl (by kernel_rfl) H (fun w H => Ev.load (v := sV x.key) H rfl (by kernel_rfl) (hat 0 _ rfl).right) rfl ?_
    refine OpsD.take 6 rfl (by kernel_rfl) H (fun w H => Ev.move rfl) rfl ?_
    refine OpsD.take 7 rfl (by kernel_rfl) H (fun w H => Ev.move rfl) rfl ?_
    refine OpsD.take 8 rfl (by kernel_rfl) H (fun w H => Ev.iaSl (n := 104) (sz := 3) (m := i) (o := ok + i * 3) rfl rfl rfl (by kernel_rfl) hil) rfl ?_
    refine OpsD.take 9 rfl (by kernel_rfl) H (fun w H => Ev.fieldAddr (o := 1) (o' := ok + i * 3 + 1) rfl (by kernel_rfl) (by omega)) rfl ?_
    refine OpsD.take 10 rfl (by kernel_rfl) H (fun w H => Ev.load (v := sV x.val) H rfl (by kernel_rfl) (hat 1 _ rfl).right) rfl ?_
    refine OpsD.take 11 rfl (by kernel_rfl) H (fun w H => Ev.move rfl) rfl ?_
    refine OpsD.one 12 (by kernel_rfl) (StepD.exT rfl rfl (Ev.ex (Ev.buildSt (ps := [(0, sV x.key), (1, sV x.val), (2, .int .i64 (n : Int))]) (pl := [(0, 1), (1, 1), (2, 1)]) (zv := .agg #[.string .empty, .string .empty, .int .i64 0]) (cs := (gL ⟨x.key, x.val, n⟩).toArray) rfl (by kernel_rfl) (by kernel_rfl) rfl)) rfl ?_); rintro _ _ ⟨rfl, rfl⟩
    refine OpsD.one 13 (by kernel_rfl) (StepD.exT rfl rfl (Ex.call rfl Tryz.call46 (with_spec (delL now x.key) ⟨x.key, x.val, n⟩ v1 (by omega) w _ (hv1.sub (hBY B1)) H)) rfl ?_); (try clear H); rintro v2 w ⟨B2, hs2, H⟩; replace H := H.dropIn
    refine OpsD.one 14 (by kernel_rfl) (StepD.exT rfl rfl (Ev.ex (Ev.assign rfl)) rfl ?_); rintro _ _ ⟨rfl, rfl⟩
    refine OpsD.done (by kernel_rfl) ?_
    repeat (first | refine .seq ?_ | refine .skip ?_ | refine .block ?_ | refine .inBlock ?_ | refine .yes rfl ?_ | refine .no rfl ?_ | refine .exit rfl ?_)
    refine RunsE.region ?_
    refine OpsE.ev (Ev.move rfl) rfl ?_
    refine OpsE.ev (Ev.add rfl rfl) rfl ?_
    refine OpsE.ev (Ev.assign rfl) rfl ?_
    refine OpsE.nil ?_
    refine RunsE.inBlock ?_
    repeat (first | refine .seq ?_ | refine .skip ?_ | refine .block ?_ | refine .inBlock ?_ | refine .yes rfl ?_ | refine .no rfl ?_ | refine .exit rfl ?_)
    refine RunsE.region ?_
    refine OpsE.ev (Ev.move rfl) rfl ?_
    refine OpsE.ev (Ev.add rfl rfl) rfl ?_
    refine OpsE.ev (Ev.assign rfl) rfl ?_
    refine OpsE.nil ?_
    exact nextL (i + 1, v2, insK Lf.key (delL now x.key) ⟨x.key, x.val, n⟩, n + 1) _ _ (by simp only; omega) ⟨by simp only; omega, by simp only; omega, hM, by simp only; omega, by simp only; omega, B2, hs2.rdS gL_len, H⟩ ⟨rfl, rfl, rfl, rfl, rfl, rfl, trivial⟩
  clear H hM1 hM2
  rintro v w ⟨B, hv, H⟩
  repeat (first | refine .seq ?_ | refine .skip ?_ | refine .block ?_ | refine .inBlock ?_ | refine .yes rfl ?_ | refine .no rfl ?_ | refine .exit rfl ?_)
  refine RunsE.region ?_
  refine OpsE.ev (Ev.move rfl) rfl ?_
  refine OpsE.ev (Ev.move rfl) rfl ?_
  refine OpsE.ev (Ev.move rfl) rfl ?_
  refine OpsE.ev (Ev.lenSl (d := 104) rfl rfl (by kernel_rfl)) rfl ?_
  refine OpsE.ev (Ev.gtr (r := decide (0 < ch.length)) rfl rfl (by rw [Bool.eq_iff_iff, decide_eq_true_iff, decide_eq_true_iff]; omega)) rfl ?_
  refine OpsE.ev (Ev.assign rfl) rfl ?_
  refine OpsE.ev (Ev.assign rfl) rfl ?_
  refine OpsE.ev (Ev.assign rfl) rfl ?_
  refine OpsE.ev (Ev.assign rfl) rfl ?_
  refine OpsE.nil ?_
  repeat (first | refine .seq ?_ | refine .skip ?_ | refine .block ?_ | refine .inBlock ?_ | refine .yes rfl ?_ | refine .no rfl ?_ | refine .exit rfl ?_)
  rw [hset]
  exact RunsE.ret4 Tryz.func18 rfl rfl rfl rfl rfl ⟨_, B ++ Bc, rfl, hfinL hv, hfin H⟩

end Go.Proofs.YtflfaiakenahlaaGreatDoor
end

section
/-
  The document's Read, walked.
-/
namespace Go.Proofs.YtflfaiakenahlaaGreatDoor.V

theorem rr_one {v : Value} {e : Nat} (h : ∃ a n c, v = .slice a n c) : ∀ u ∈ [v, Value.int .i64 (e : Int)], u.oneCell' = true := by
  obtain ⟨a, n, c, rfl⟩ := h
  intro u hu
  simp only [List.mem_cons, List.not_mem_nil, or_false] at hu
  rcases hu with rfl | rfl <;> rfl

theorem uintM_left (most : Nat) (R : RdM) : (uintM most R).1.1.length ≤ R.1.length := by
  unfold uintM
  split
  · exact Nat.le_refl _
  · split
    · exact Nat.le_refl _
    · simp only [List.length_drop]; omega
theorem countM_left (most : Nat) (R : RdM) : (countM most R).1.1.length ≤ R.1.length := by
  unfold countM
  split
  · exact Nat.le_refl _
  · split
    · exact Nat.le_refl _
    · split
      · exact Nat.le_refl _
      · simp only [List.length_drop]; omega
theorem scanM_left (most : Nat) : ∀ (out bs : List UInt8), (scanM most out bs).2.2.length ≤ bs.length := by
  intro out bs
  fun_induction scanM most out bs <;> simp_all <;> omega
theorem bytesM_left (most : Nat) (R : RdM) : (bytesM most R).1.1.length ≤ R.1.length := by
  unfold bytesM
  split
  · exact Nat.le_refl _
  · split
    · exact Nat.le_refl _
    · exact scanM_left _ _ _

theorem Inp.isS {L : List (Nat × Obj)} {v : Value} {bs : List UInt8} (h : Inp L v bs) : ∃ a n c, v = .slice a n c := by
  obtain ⟨a, c, rfl, _⟩ := h.len
  exact ⟨_, _, _, rfl⟩

end Go.Proofs.YtflfaiakenahlaaGreatDoor.V
namespace Go.Proofs.YtflfaiakenahlaaGreatDoor
open Go.Proofs.YtflfaiakenahlaaGreatDoor.V

set_option maxHeartbeats 4000000 in
theorem refread_spec [Strm] (ps : List (List UInt8)) (vp : Value) (hc1 : 2 ≤ ps.length) (hc : ps.length ≤ 256) (hsz : ∀ q ∈ ps, q.length ≤ 4096) (w : World) (X : List (Nat × Obj)) (hp : Els X (fun u bs => Inp X u bs) vp ps) (H : SL w X) :
    Does Tryz.prog 13 #[vp] w fun r w' =>
      (openM ps.length (fun i => ps.getD i []) = none ∧ r = .tuple #[.slice none 0 0, .int .i64 14] ∧ SL w' X) ∨
      (∃ l v B, openM ps.length (fun i => ps.getD i []) = some l ∧ l.length ≤ 255 ∧ r = .tuple #[v, .int .i64 0] ∧ LsAt (B ++ X) v l ∧ SL w' (B ++ X)) := by
  obtain ⟨ap, cp, rfl, hcp⟩ := hp.len
  obtain ⟨pg, hpg⟩ : ∃ pg : Nat → List UInt8, pg = fun i => ps.getD i [] := ⟨_, rfl⟩
  rw [← hpg]
  have hgt : ∀ {i : Nat}, i < ps.length → ∃ q, ps[i]? = some q ∧ pg i = q ∧ q.length ≤ 4096 := fun {i} hi => by
    refine ⟨ps[i], List.getElem?_eq_getElem hi, ?_, hsz _ (List.getElem_mem hi)⟩
    rw [hpg]
    simp [List.getD_eq_getElem?_getD, hi]
  clear hpg
  obtain ⟨count, hcnt⟩ : ∃ count, count = ps.length := ⟨_, rfl⟩
  obtain ⟨line, hl0, hl1, hl2⟩ := hgt (i := 0) (by omega)
  obtain ⟨bp, op, vl, rfl, hrl, hinl⟩ := hp.at hl0
  obtain ⟨al, cl, rfl, hcl⟩ := hinl.len
  rw [← hcnt] at hc1 hc hcp ⊢
  have hopen : openM count pg = openM count pg := rfl
  conv at hopen => rhs; unfold openM
  rw [hl1] at hopen
  obtain ⟨R, hR⟩ : ∃ R, R = openM count pg := ⟨_, rfl⟩
  rw [← hR] at hopen ⊢
  clear hR
  refine Does.intro (args := [_]) (e := [(0, _)]) Tryz.func13 rfl Tryz.ntmps13 rfl rfl ?_
  repeat (first | refine .seq ?_ | refine .skip ?_ | refine .block ?_ | refine .inBlock ?_ | refine .yes rfl ?_ | refine .no rfl ?_ | refine .exit rfl ?_)
  repeat (first | refine .seq ?_ | refine .skip ?_ | refine .block ?_ | refine .inBlock ?_ | refine .yes rfl ?_ | refine .no rfl ?_ | refine .exit rfl ?_)
  refine RunsE.region ?_
  refine OpsE.ev (Ev.assign rfl) rfl ?_
  refine OpsE.ev (Ev.assign rfl) rfl ?_
  refine OpsE.nil ?_
  repeat (first | refine .seq ?_ | refine .skip ?_ | refine .block ?_ | refine .inBlock ?_ | refine .yes rfl ?_ | refine .no rfl ?_ | refine .exit rfl ?_)
  refine RunsE.region ?_
  refine OpsE.ev (Ev.assign rfl) rfl ?_
  refine OpsE.nil ?_
  by_cases hl : line = []
  · rw [if_pos hl] at hopen
    repeat (first | refine .seq ?_ | refine .skip ?_ | refine .block ?_ | refine .inBlock ?_ | refine .yes rfl ?_ | refine .no rfl ?_ | refine .exit rfl ?_)
    refine RunsE.region ?_
    refine OpsE.ev (Ev.move rfl) rfl ?_
    refine OpsE.ev (Ev.iaSl (n := 29) (sz := 1) (m := 0) (o := op + 0) rfl rfl rfl (by kernel_rfl) (by omega) (by rw [Nat.mul_one])) rfl ?_
    refine OpsE.ev (Ev.load (v := .slice al line.length cl) H rfl (by kernel_rfl) hrl) rfl ?_
    refine OpsE.ev (Ev.lenSl (d := 5) rfl rfl (by kernel_rfl)) rfl ?_
    refine OpsE.ev (Ev.eql (r := true) rfl rfl (by rw [hl]; rfl)) rfl ?_
    refine OpsE.nil ?_
    repeat (first | refine .seq ?_ | refine .skip ?_ | refine .block ?_ | refine .inBlock ?_ | refine .yes rfl ?_ | refine .no rfl ?_ | refine .exit rfl ?_)
    repeat (first | refine .seq ?_ | refine .skip ?_ | refine .block ?_ | refine .inBlock ?_ | refine .yes rfl ?_ | refine .no rfl ?_ | refine .exit rfl ?_)
    refine RunsE.region ?_
    refine OpsE.ev (Ev.move rfl) rfl ?_
    refine OpsE.ev (Ev.assign rfl) rfl ?_
    refine OpsE.ev (Ev.assign rfl) rfl ?_
    refine OpsE.nil ?_
    repeat (first | refine .seq ?_ | refine .skip ?_ | refine .block ?_ | refine .inBlock ?_ | refine .yes rfl ?_ | refine .no rfl ?_ | refine .exit rfl ?_)
    exact RunsE.ret2 Tryz.func13 rfl rfl rfl (.inr ⟨[], _, [], hopen, by simp, rfl, .nil, H⟩)
  rw [if_neg hl] at hopen
  have hpos : 0 < line.length := List.length_pos_iff.2 hl
  repeat (first | refine .seq ?_ | refine .skip ?_ | refine .block ?_ | refine .inBlock ?_ | refine .yes rfl ?_ | refine .no rfl ?_ | refine .exit rfl ?_)
  refine RunsE.region ?_
  refine OpsE.ev (Ev.move rfl) rfl ?_
  refine OpsE.ev (Ev.iaSl (n := 29) (sz := 1) (m := 0) (o := op + 0) rfl rfl rfl (by kernel_rfl) (by omega) (by rw [Nat.mul_one])) rfl ?_
  refine OpsE.ev (Ev.load (v := .slice al line.length cl) H rfl (by kernel_rfl) hrl) rfl ?_
  refine OpsE.ev (Ev.lenSl (d := 5) rfl rfl (by kernel_rfl)) rfl ?_
  refine OpsE.ev (Ev.eql (r := false) rfl rfl (beq_eq_false_iff_ne.2 (by omega))) rfl ?_
  refine OpsE.nil ?_
  repeat (first | refine .seq ?_ | refine .skip ?_ | refine .block ?_ | refine .inBlock ?_ | refine .yes rfl ?_ | refine .no rfl ?_ | refine .exit rfl ?_)
  obtain ⟨K, hK⟩ : ∃ K, K = countM (count - 1) (line, 0) := ⟨_, rfl⟩
  have hKle := countM_le (count - 1) (line, 0)
  rw [← hK] at hopen hKle
  repeat (first | refine .seq ?_ | refine .skip ?_ | refine .block ?_ | refine .inBlock ?_ | refine .yes rfl ?_ | refine .no rfl ?_ | refine .exit rfl ?_)
  refine RunsE.region ?_
  refine OpsE.ev (Ev.move rfl) rfl ?_
  refine OpsE.ev (Ev.iaSl (n := 29) (sz := 1) (m := 0) (o := op + 0) rfl rfl rfl (by kernel_rfl) (by omega) (by rw [Nat.mul_one])) rfl ?_
  refine OpsE.ev (Ev.load (v := .slice al line.length cl) H rfl (by kernel_rfl) hrl) rfl ?_
  refine OpsE.ev (Ev.buildSt (pl := [(0, 1), (1, 1)]) (zv := .agg #[.slice none 0 0, .int .i64 0]) rfl (by kernel_rfl) (by kernel_rfl) rfl) rfl ?_
  refine OpsE.ev (Ev.move rfl) rfl ?_
  refine OpsE.ev (Ev.lenSl (d := 29) rfl rfl (by kernel_rfl)) rfl ?_
  refine OpsE.ev (Ev.sub (c := ((count - 1 : Nat) : Int)) rfl rfl (by rw [qi64 (by omega) (by omega)]; omega)) rfl ?_
  refine OpsE.ex (Ex.call rfl Tryz.call41 (refreadcount_spec _ line 0 (count - 1) (by omega) (by omega) w _ X hinl (fun p h => h) H)) rfl ?_; (try clear H); rintro _ w ⟨v1, rfl, hin1, H⟩; rw [← hK] at hin1; obtain ⟨a1, n1, c1, rfl⟩ := hin1.isS
  refine OpsE.ev (Ev.move rfl) rfl ?_
  refine OpsE.ev (Ev.extract (v := rrV (.slice a1 n1 c1) K.1.2) rfl (by rw [hK]; rfl)) rfl ?_
  refine OpsE.ev (Ev.extract (v := .int .i64 (K.2 : Int)) rfl (by rw [hK]; rfl)) rfl ?_
  refine OpsE.ex (Ex.alloc (zv := .agg #[.slice none 0 0, .int .i64 0]) H (by kernel_rfl)) rfl ?_; (try clear H); rintro _ w ⟨b5, rfl, H⟩; simp only [Value.cells] at H
  refine OpsE.exn (Ex.storeBlk (n := 2) (vs := rrL (.slice a1 n1 c1) K.1.2) H rfl rfl (by kernel_rfl) rfl (rr_one ⟨_, _, _, rfl⟩) u0 rfl (Thaw.zero _ _)) ?_; (try clear H); intro _ w H
  refine OpsE.ev (Ev.assign rfl) rfl ?_
  refine OpsE.nil ?_
  repeat (first | refine .seq ?_ | refine .skip ?_ | refine .block ?_ | refine .inBlock ?_ | refine .yes rfl ?_ | refine .no rfl ?_ | refine .exit rfl ?_)
  refine RunsE.region ?_
  refine OpsE.ev (Ev.assign rfl) rfl ?_
  refine OpsE.nil ?_
  repeat (first | refine .seq ?_ | refine .skip ?_ | refine .block ?_ | refine .inBlock ?_ | refine .yes rfl ?_ | refine .no rfl ?_ | refine .exit rfl ?_)
  refine RunsE.region ?_
  refine OpsE.ev (Ev.assign rfl) rfl ?_
  refine OpsE.nil ?_
  repeat refine RunsE.seq ?_
  refine RunsE.join (fun v : Value => [(4, v), (5, .pointer (some ⟨b5, 0, none⟩))])
    (fun v w => ∃ u R1 l B, openLoop count pg K.2 K.1 0 [] = some (R1, l) ∧ l.length ≤ 255 ∧ Inp X u R1.1 ∧ LsAt (B ++ X) v l ∧ SL w ((b5, .cells (rrL u R1.2).toArray 94 (0, 0)) :: (B ++ X))) (fun next => ?_) ?_
  · refine RunsE.block ?_
    refine RunsE.loop (fun s : Nat × Nat × Value × List Lf => [(0, .slice (some ⟨bp, op, none⟩) ps.length cp), (4, s.2.2.1), (5, .pointer (some ⟨b5, 0, none⟩)), (6, .int .i64 (K.2 : Int)), (7, .int .i64 (s.2.1 : Int)), (8, .int .i64 (s.1 : Int))])
      (fun s w => ∃ u R1 B, s.1 ≤ K.2 ∧ openLoop count pg K.2 K.1 0 [] = openLoop count pg (K.2 - s.1) R1 s.2.1 s.2.2.2 ∧ s.2.2.2.length ≤ s.1 ∧ R1.1.length ≤ 4096 ∧ Inp X u R1.1 ∧ LsAt (B ++ X) s.2.2.1 s.2.2.2 ∧ SL w ((b5, .cells (rrL u R1.2).toArray 94 (0, 0)) :: (B ++ X)))
      (fun s => K.2 - s.1) (0, 0, .slice none 0 0, []) ⟨by rw [hcnt]; rfl, rfl, rfl, rfl, rfl, rfl, trivial⟩ ⟨_, K.1, [], by simp only; omega, rfl, by simp, ?_, hin1, .nil, H⟩ ?_
    · rw [hK]; exact Nat.le_trans (countM_left _ _) hl2
    clear H hin1
    rintro ⟨i, last, lv, acc⟩ w ⟨u, R1, B, hi, hlp, hacl, hR1l, hin, hlv, H⟩ nextL
    simp only at hi hlp hacl hlv
    obtain ⟨au, nu, cu, rfl⟩ := hin.isS
    by_cases h1 : i = K.2
    ·
      repeat (first | refine .seq ?_ | refine .skip ?_ | refine .block ?_ | refine .inBlock ?_ | refine .yes rfl ?_ | refine .no rfl ?_ | refine .exit rfl ?_)
      refine RunsE.region ?_
      refine OpsE.ev (Ev.move rfl) rfl ?_
      refine OpsE.ev (Ev.move rfl) rfl ?_
      refine OpsE.ev (Ev.lss (r := false) rfl rfl (decide_eq_false (by simp only; omega))) rfl ?_
      refine OpsE.nil ?_
      repeat refine RunsE.seq ?_
      refine RunsE.no rfl ?_
      refine RunsE.exit rfl ?_
      rw [h1, Nat.sub_self] at hlp
      exact next _ _ _ ⟨_, R1, acc, B, hlp, by omega, hin, hlv, H⟩ ⟨rfl, rfl, trivial⟩
    clear next
    rw [show K.2 - i = (K.2 - (i + 1)) + 1 by omega] at hlp
    conv at hlp => rhs; unfold openLoop
    obtain ⟨V, hV⟩ : ∃ V, V = uintM (count - 1) R1 := ⟨_, rfl⟩
    have hVle := uintM_le (count - 1) R1
    have hVl := uintM_left (count - 1) R1
    rw [← hV] at hlp hVle hVl
    repeat (first | refine .seq ?_ | refine .skip ?_ | refine .block ?_ | refine .inBlock ?_ | refine .yes rfl ?_ | refine .no rfl ?_ | refine .exit rfl ?_)
    refine RunsE.region ?_
    refine OpsE.ev (Ev.move rfl) rfl ?_
    refine OpsE.ev (Ev.move rfl) rfl ?_
    refine OpsE.ev (Ev.lss (r := true) rfl rfl (decide_eq_true (by simp only; omega))) rfl ?_
    refine OpsE.nil ?_
    repeat (first | refine .seq ?_ | refine .skip ?_ | refine .block ?_ | refine .inBlock ?_ | refine .yes rfl ?_ | refine .no rfl ?_ | refine .exit rfl ?_)
    repeat (first | refine .seq ?_ | refine .skip ?_ | refine .block ?_ | refine .inBlock ?_ | refine .yes rfl ?_ | refine .no rfl ?_ | refine .exit rfl ?_)
    refine RunsE.region ?_
    refine OpsE.ev (Ev.assign rfl) rfl ?_
    refine OpsE.nil ?_
    repeat (first | refine .seq ?_ | refine .skip ?_ | refine .block ?_ | refine .inBlock ?_ | refine .yes rfl ?_ | refine .no rfl ?_ | refine .exit rfl ?_)
    refine RunsE.region ?_
    refine OpsE.ev (Ev.loadBlk (n := 2) (vs := rrL (.slice au nu cu) R1.2) H rfl (by kernel_rfl) rfl m0) rfl ?_
    refine OpsE.ev (Ev.move rfl) rfl ?_
    refine OpsE.ev (Ev.lenSl (d := 29) rfl rfl (by kernel_rfl)) rfl ?_
    refine OpsE.ev (Ev.sub (c := ((count - 1 : Nat) : Int)) rfl rfl (by rw [qi64 (by omega) (by omega)]; omega)) rfl ?_
    refine OpsE.ev (Ev.conv (c := ((count - 1 : Nat) : Int)) (k' := .u64) rfl (by kernel_rfl) (by kernel_rfl) (qu64 (by omega) (by omega))) rfl ?_
    refine OpsE.ex (Ex.call rfl Tryz.call42 (refreaduint_spec _ R1.1 R1.2 (count - 1) (by omega) w _ X hin (fun p h => .tail _ (List.mem_append_right _ h)) H)) rfl ?_; (try clear H); rintro _ w ⟨v2, rfl, hin2, H⟩; rw [show (R1.1, R1.2) = R1 from rfl, ← hV] at hin2; obtain ⟨a2, n2, c2, rfl⟩ := hin2.isS
    refine OpsE.ev (Ev.move rfl) rfl ?_
    refine OpsE.ev (Ev.extract (v := rrV (.slice a2 n2 c2) V.1.2) rfl (by rw [hV]; rfl)) rfl ?_
    refine OpsE.ev (Ev.extract (v := .int .u64 (V.2 : Int)) rfl (by rw [hV]; rfl)) rfl ?_
    refine OpsE.exn (Ex.storeBlk (n := 2) (vs := rrL (.slice a2 n2 c2) V.1.2) H rfl rfl (by kernel_rfl) rfl (rr_one ⟨_, _, _, rfl⟩) u0 rfl (Thaw.zero _ _)) ?_; (try clear H); intro _ w H
    refine OpsE.ev (Ev.assign rfl) rfl ?_
    refine OpsE.nil ?_
    repeat (first | refine .seq ?_ | refine .skip ?_ | refine .block ?_ | refine .inBlock ?_ | refine .yes rfl ?_ | refine .no rfl ?_ | refine .exit rfl ?_)
    refine RunsE.region ?_
    refine OpsE.ev (Ev.move rfl) rfl ?_
    refine OpsE.ev (Ev.conv (c := (V.2 : Int)) (k' := .i64) rfl (by kernel_rfl) (by kernel_rfl) (qi64 (by omega) (by omega))) rfl ?_
    refine OpsE.ev (Ev.move rfl) rfl ?_
    refine OpsE.ev (Ev.leq (r := decide (V.2 ≤ last)) rfl rfl (by rw [Bool.eq_iff_iff, decide_eq_true_iff, decide_eq_true_iff]; simp only; omega)) rfl ?_
    refine OpsE.nil ?_
    by_cases h2 : V.2 ≤ last
    · repeat refine RunsE.seq ?_
      refine RunsE.yes (by rw [decide_eq_true h2]; rfl) ?_
      repeat (first | refine .seq ?_ | refine .skip ?_ | refine .block ?_ | refine .inBlock ?_ | refine .yes rfl ?_ | refine .no rfl ?_ | refine .exit rfl ?_)
      refine RunsE.region ?_
      refine OpsE.ev (Ev.assign rfl) rfl ?_
      refine OpsE.ev (Ev.assign rfl) rfl ?_
      refine OpsE.nil ?_
      repeat (first | refine .seq ?_ | refine .skip ?_ | refine .block ?_ | refine .inBlock ?_ | refine .yes rfl ?_ | refine .no rfl ?_ | refine .exit rfl ?_)
      rw [if_pos h2] at hlp
      rw [hlp] at hopen
      exact RunsE.ret2 Tryz.func13 rfl rfl rfl (.inl ⟨hopen, rfl, H.drop.dropL⟩)
    repeat refine RunsE.seq ?_
    refine RunsE.no (by rw [decide_eq_false h2]; rfl) ?_
    rw [if_neg h2] at hlp
    repeat (first | refine .seq ?_ | refine .skip ?_ | refine .block ?_ | refine .inBlock ?_ | refine .yes rfl ?_ | refine .no rfl ?_ | refine .exit rfl ?_)
    refine RunsE.region ?_
    refine OpsE.ev (Ev.move rfl) rfl ?_
    refine OpsE.ev (Ev.conv (c := (V.2 : Int)) (k' := .i64) rfl (by kernel_rfl) (by kernel_rfl) (qi64 (by omega) (by omega))) rfl ?_
    refine OpsE.ev (Ev.assign rfl) rfl ?_
    refine OpsE.nil ?_
    obtain ⟨q, hq0, hq1, hq2⟩ := hgt (i := V.2) (by omega)
    obtain ⟨bp', op', vq, e0, hrq, hinq⟩ := hp.at hq0
    cases e0
    obtain ⟨aq, cq, rfl, hcq⟩ := hinq.len
    rw [hq1] at hlp
    obtain ⟨Y, hY⟩ : ∃ Y, Y = (b5, Obj.cells (rrL (.slice a2 n2 c2) V.1.2).toArray 94 (0, 0)) :: (B ++ X) := ⟨_, rfl⟩
    have hXY : ∀ p ∈ X, p ∈ Y := fun p h => by rw [hY]; exact .tail _ (List.mem_append_right _ h)
    rw [← hY] at H
    obtain ⟨Q1, hQ1⟩ : ∃ Q1, Q1 = bytesM 4096 (q, 0) := ⟨_, rfl⟩
    obtain ⟨Q2, hQ2⟩ : ∃ Q2, Q2 = bytesM 4096 Q1.1 := ⟨_, rfl⟩
    have hQ1l := bytesM_left 4096 (q, 0)
    rw [← hQ1] at hlp hQ1l
    rw [← hQ2] at hlp
    repeat (first | refine .seq ?_ | refine .skip ?_ | refine .block ?_ | refine .inBlock ?_ | refine .yes rfl ?_ | refine .no rfl ?_ | refine .exit rfl ?_)
    refine RunsE.region ?_
    refine OpsE.ev (Ev.move rfl) rfl ?_
    refine OpsE.ev (Ev.move rfl) rfl ?_
    refine OpsE.ev (Ev.iaSl (n := 29) (sz := 1) (m := V.2) (o := op + V.2) rfl rfl rfl (by kernel_rfl) (by omega) (by rw [Nat.mul_one])) rfl ?_
    refine OpsE.ev (Ev.load (v := .slice aq q.length cq) H rfl (by kernel_rfl) (hrq.sub hXY)) rfl ?_
    refine OpsE.ev (Ev.buildSt (pl := [(0, 1), (1, 1)]) (zv := .agg #[.slice none 0 0, .int .i64 0]) rfl (by kernel_rfl) (by kernel_rfl) rfl) rfl ?_
    refine OpsE.ex (Ex.call rfl Tryz.call43 (refreadbytes_spec _ q 0 4096 (by omega) (by omega) w _ X hinq hXY H)) rfl ?_; (try clear H); rintro _ w ⟨v3, u3, B3, rfl, hin3, hs3, H⟩; rw [← hQ1] at hin3 hs3; obtain ⟨a3, n3, c3, rfl⟩ := hin3.isS
    refine OpsE.ev (Ev.move rfl) rfl ?_
    refine OpsE.ev (Ev.extract (v := rrV (.slice a3 n3 c3) Q1.1.2) rfl (by rw [hQ1]; rfl)) rfl ?_
    refine OpsE.ev (Ev.extract rfl rfl) rfl ?_
    refine OpsE.ex (Ex.alloc (zv := .agg #[.slice none 0 0, .int .i64 0]) H (by kernel_rfl)) rfl ?_; (try clear H); rintro _ w ⟨b10, rfl, H⟩; simp only [Value.cells] at H
    refine OpsE.exn (Ex.storeBlk (n := 2) (vs := rrL (.slice a3 n3 c3) Q1.1.2) H rfl rfl (by kernel_rfl) rfl (rr_one ⟨_, _, _, rfl⟩) u0 rfl (Thaw.zero _ _)) ?_; (try clear H); intro _ w H
    refine OpsE.ev (Ev.assign rfl) rfl ?_
    refine OpsE.nil ?_
    repeat (first | refine .seq ?_ | refine .skip ?_ | refine .block ?_ | refine .inBlock ?_ | refine .yes rfl ?_ | refine .no rfl ?_ | refine .exit rfl ?_)
    refine RunsE.region ?_
    refine OpsE.ev (Ev.loadBlk (n := 2) (vs := rrL (.slice a3 n3 c3) Q1.1.2) H rfl (by kernel_rfl) rfl m0) rfl ?_
    refine OpsE.ex (Ex.call rfl Tryz.call43 (refreadbytes_spec _ Q1.1.1 Q1.1.2 4096 (by have : Q1.1.1.length ≤ q.length := hQ1l; omega) (by omega) w _ X hin3 (fun p h => .tail _ (List.mem_append_right _ (hXY p h))) H)) rfl ?_; (try clear H); rintro _ w ⟨v4, u4, B4, rfl, hin4, hs4, H⟩; rw [show (Q1.1.1, Q1.1.2) = Q1.1 from rfl, ← hQ2] at hin4 hs4; obtain ⟨a4, n4, c4, rfl⟩ := hin4.isS; replace H := H.unmid
    refine OpsE.ev (Ev.move rfl) rfl ?_
    refine OpsE.ev (Ev.extract (v := rrV (.slice a4 n4 c4) Q2.1.2) rfl (by rw [hQ2]; rfl)) rfl ?_
    refine OpsE.ev (Ev.extract rfl rfl) rfl ?_
    refine OpsE.exn (Ex.storeBlk (n := 2) (vs := rrL (.slice a4 n4 c4) Q2.1.2) H rfl rfl (by kernel_rfl) rfl (rr_one ⟨_, _, _, rfl⟩) u0 rfl (Thaw.zero _ _)) ?_; (try clear H); intro _ w H
    refine OpsE.ev (Ev.assign rfl) rfl ?_
    refine OpsE.nil ?_
    obtain ⟨D, hD⟩ : ∃ D, D = (b10, Obj.cells (rrL (.slice a4 n4 c4) Q2.1.2).toArray 94 (0, 0)) :: (B4 ++ B3) := ⟨_, rfl⟩
    replace H : SL w (D ++ Y) := by rw [hD]; simpa using H
    have hb10 : ∀ {Z : List (Nat × Obj)}, (b10, Obj.cells (rrL (.slice a4 n4 c4) Q2.1.2).toArray 94 (0, 0)) ∈ D ++ Z := fun {Z} => by rw [hD]; exact .head _
    have hk3 : ∀ {Z : List (Nat × Obj)}, Inp (D ++ Z) u3 Q1.2 := fun {Z} => (hs3.inp (L := [])).sub fun p hp => by
      rw [hD]; rw [List.append_nil] at hp; exact List.mem_append_left _ (.tail _ (List.mem_append_right _ hp))
    have hk4 : ∀ {Z : List (Nat × Obj)}, Inp (D ++ Z) u4 Q2.2 := fun {Z} => (hs4.inp (L := [])).sub fun p hp => by
      rw [hD]; rw [List.append_nil] at hp; exact List.mem_append_left _ (.tail _ (List.mem_append_left _ hp))
    have hlvY : ∀ {Z : List (Nat × Obj)}, LsAt (Z ++ Y) lv acc := fun {Z} => hlv.sub fun p hp => by rw [hY]; exact List.mem_append_right _ (.tail _ hp)
    have hin4Y : Inp (D ++ Y) (.slice a4 n4 c4) Q2.1.1 := hin4.sub fun p hp => List.mem_append_right _ (hXY p hp)
    clear hD
    have hdn : (Q2.1.1, Q2.1.2) = Q2.1 := rfl
    by_cases h3 : doneM Q2.1 = 0
    case neg =>
      rw [if_pos (.inl h3)] at hlp
      rw [hlp] at hopen
      repeat (first | refine .seq ?_ | refine .skip ?_ | refine .block ?_ | refine .inBlock ?_ | refine .yes rfl ?_ | refine .no rfl ?_ | refine .exit rfl ?_)
      refine RunsE.region ?_
      refine OpsE.ev (Ev.loadBlk (n := 2) (vs := rrL (.slice a4 n4 c4) Q2.1.2) H rfl (by kernel_rfl) rfl hb10) rfl ?_
      refine OpsE.ex (Ex.call rfl Tryz.call44 (refdone_spec _ Q2.1.1 Q2.1.2 w _ hin4Y H)) rfl ?_; (try clear H); rintro _ w ⟨rfl, H⟩; rw [hdn]
      refine OpsE.ev (Ev.neq (r := true) rfl rfl (bne_iff_ne.2 (by omega))) rfl ?_
      refine OpsE.ev (Ev.move rfl) rfl ?_
      first | (refine OpsE.yes rfl rfl ?_; refine OpsE.ev (Ev.move rfl) rfl ?_) | refine OpsE.no rfl rfl rfl ?_ | refine OpsE.off rfl rfl rfl ?_
      first | (refine OpsE.yes rfl rfl ?_; refine OpsE.ev (Ev.move rfl) rfl ?_) | refine OpsE.no rfl rfl rfl ?_ | refine OpsE.off rfl rfl rfl ?_
      first | (refine OpsE.yes rfl rfl ?_; refine OpsE.ev ((?op_convert)) rfl ?_) | refine OpsE.no rfl rfl rfl ?_ | refine OpsE.off rfl rfl rfl ?_
      first | (refine OpsE.yes rfl rfl ?_; refine OpsE.ex (Ex.call rfl Tryz.call45 (?spec)) rfl ?_; (try clear H); rintro _ w ⟨rfl, H⟩) | refine OpsE.no rfl rfl rfl ?_ | refine OpsE.off rfl rfl rfl ?_
      first | (refine OpsE.yes rfl rfl ?_; refine OpsE.ev (Ev.geq rfl rfl) rfl ?_) | refine OpsE.no rfl rfl rfl ?_ | refine OpsE.off rfl rfl rfl ?_
      refine OpsE.ev ((by first | exact Ev.pickT rfl rfl | exact Ev.pickF rfl rfl)) rfl ?_
      refine OpsE.nil ?_
      repeat refine RunsE.seq ?_
      refine RunsE.yes rfl ?_
      repeat (first | refine .seq ?_ | refine .skip ?_ | refine .block ?_ | refine .inBlock ?_ | refine .yes rfl ?_ | refine .no rfl ?_ | refine .exit rfl ?_)
      refine RunsE.region ?_
      refine OpsE.ev (Ev.assign rfl) rfl ?_
      refine OpsE.ev (Ev.assign rfl) rfl ?_
      refine OpsE.nil ?_
      repeat (first | refine .seq ?_ | refine .skip ?_ | refine .block ?_ | refine .inBlock ?_ | refine .yes rfl ?_ | refine .no rfl ?_ | refine .exit rfl ?_)
      rw [hY] at H
      exact RunsE.ret2 Tryz.func13 rfl rfl rfl (.inl ⟨hopen, rfl, H.dropL.drop.dropL⟩)
    have hfs := find_isSome acc Q1.2
    by_cases hlt : findI acc Q1.2 < acc.length
    · rw [if_pos (.inr (by rw [hfs]; exact decide_eq_true hlt))] at hlp
      rw [hlp] at hopen
      repeat (first | refine .seq ?_ | refine .skip ?_ | refine .block ?_ | refine .inBlock ?_ | refine .yes rfl ?_ | refine .no rfl ?_ | refine .exit rfl ?_)
      refine RunsE.region ?_
      refine OpsE.ev (Ev.loadBlk (n := 2) (vs := rrL (.slice a4 n4 c4) Q2.1.2) H rfl (by kernel_rfl) rfl hb10) rfl ?_
      refine OpsE.ex (Ex.call rfl Tryz.call44 (refdone_spec _ Q2.1.1 Q2.1.2 w _ hin4Y H)) rfl ?_; (try clear H); rintro _ w ⟨rfl, H⟩; rw [hdn, h3]
      refine OpsE.ev (Ev.neq (r := false) rfl rfl rfl) rfl ?_
      refine OpsE.ev (Ev.move rfl) rfl ?_
      first | (refine OpsE.yes rfl rfl ?_; refine OpsE.ev (Ev.move rfl) rfl ?_) | refine OpsE.no rfl rfl rfl ?_ | refine OpsE.off rfl rfl rfl ?_
      first | (refine OpsE.yes rfl rfl ?_; refine OpsE.ev (Ev.move rfl) rfl ?_) | refine OpsE.no rfl rfl rfl ?_ | refine OpsE.off rfl rfl rfl ?_
      first | (refine OpsE.yes rfl rfl ?_; refine OpsE.ev (Ev.inpStr (bs := Q1.2) (el := 5) H rfl hk3 Tryz.underlying29 Tryz.underlying5 Tryz.underlying9) rfl ?_) | refine OpsE.no rfl rfl rfl ?_ | refine OpsE.off rfl rfl rfl ?_
      first | (refine OpsE.yes rfl rfl ?_; refine OpsE.ex (Ex.call rfl Tryz.call45 (find_spec acc Q1.2 lv (by omega) w _ hlvY H)) rfl ?_; (try clear H); rintro _ w ⟨rfl, H⟩; rw [show findZ acc Q1.2 = (findI acc Q1.2 : Int) from if_pos hlt]) | refine OpsE.no rfl rfl rfl ?_ | refine OpsE.off rfl rfl rfl ?_
      first | (refine OpsE.yes rfl rfl ?_; refine OpsE.ev (Ev.geq (r := true) rfl rfl (decide_eq_true (by omega))) rfl ?_) | refine OpsE.no rfl rfl rfl ?_ | refine OpsE.off rfl rfl rfl ?_
      refine OpsE.ev ((by first | exact Ev.pickT rfl rfl | exact Ev.pickF rfl rfl)) rfl ?_
      refine OpsE.nil ?_
      repeat refine RunsE.seq ?_
      refine RunsE.yes rfl ?_
      repeat (first | refine .seq ?_ | refine .skip ?_ | refine .block ?_ | refine .inBlock ?_ | refine .yes rfl ?_ | refine .no rfl ?_ | refine .exit rfl ?_)
      refine RunsE.region ?_
      refine OpsE.ev (Ev.assign rfl) rfl ?_
      refine OpsE.ev (Ev.assign rfl) rfl ?_
      refine OpsE.nil ?_
      repeat (first | refine .seq ?_ | refine .skip ?_ | refine .block ?_ | refine .inBlock ?_ | refine .yes rfl ?_ | refine .no rfl ?_ | refine .exit rfl ?_)
      rw [hY] at H
      exact RunsE.ret2 Tryz.func13 rfl rfl rfl (.inl ⟨hopen, rfl, H.dropL.drop.dropL⟩)
    rw [if_neg (by rw [hfs, decide_eq_false hlt]; rintro (h | h); exact h h3; cases h)] at hlp
    repeat (first | refine .seq ?_ | refine .skip ?_ | refine .block ?_ | refine .inBlock ?_ | refine .yes rfl ?_ | refine .no rfl ?_ | refine .exit rfl ?_)
    refine RunsE.region ?_
    refine OpsE.ev (Ev.loadBlk (n := 2) (vs := rrL (.slice a4 n4 c4) Q2.1.2) H rfl (by kernel_rfl) rfl hb10) rfl ?_
    refine OpsE.ex (Ex.call rfl Tryz.call44 (refdone_spec _ Q2.1.1 Q2.1.2 w _ hin4Y H)) rfl ?_; (try clear H); rintro _ w ⟨rfl, H⟩; rw [hdn, h3]
    refine OpsE.ev (Ev.neq (r := false) rfl rfl rfl) rfl ?_
    refine OpsE.ev (Ev.move rfl) rfl ?_
    first | (refine OpsE.yes rfl rfl ?_; refine OpsE.ev (Ev.move rfl) rfl ?_) | refine OpsE.no rfl rfl rfl ?_ | refine OpsE.off rfl rfl rfl ?_
    first | (refine OpsE.yes rfl rfl ?_; refine OpsE.ev (Ev.move rfl) rfl ?_) | refine OpsE.no rfl rfl rfl ?_ | refine OpsE.off rfl rfl rfl ?_
    first | (refine OpsE.yes rfl rfl ?_; refine OpsE.ev (Ev.inpStr (bs := Q1.2) (el := 5) H rfl hk3 Tryz.underlying29 Tryz.underlying5 Tryz.underlying9) rfl ?_) | refine OpsE.no rfl rfl rfl ?_ | refine OpsE.off rfl rfl rfl ?_
    first | (refine OpsE.yes rfl rfl ?_; refine OpsE.ex (Ex.call rfl Tryz.call45 (find_spec acc Q1.2 lv (by omega) w _ hlvY H)) rfl ?_; (try clear H); rintro _ w ⟨rfl, H⟩; rw [show findZ acc Q1.2 = -1 from if_neg hlt]) | refine OpsE.no rfl rfl rfl ?_ | refine OpsE.off rfl rfl rfl ?_
    first | (refine OpsE.yes rfl rfl ?_; refine OpsE.ev (Ev.geq (r := false) rfl rfl rfl) rfl ?_) | refine OpsE.no rfl rfl rfl ?_ | refine OpsE.off rfl rfl rfl ?_
    refine OpsE.ev ((by first | exact Ev.pickT rfl rfl | exact Ev.pickF rfl rfl)) rfl ?_
    refine OpsE.nil ?_
    repeat refine RunsE.seq ?_
    refine RunsE.no rfl ?_
    repeat (first | refine .seq ?_ | refine .skip ?_ | refine .block ?_ | refine .inBlock ?_ | refine .yes rfl ?_ | refine .no rfl ?_ | refine .exit rfl ?_)
    refine RunsE.region ?_
    refine OpsE.ev (Ev.move rfl) rfl ?_
    refine OpsE.ev (Ev.move rfl) rfl ?_
    refine OpsE.ev (Ev.inpStr (bs := Q1.2) (el := 5) H rfl hk3 Tryz.underlying29 Tryz.underlying5 Tryz.underlying9) rfl ?_
    refine OpsE.ev (Ev.move rfl) rfl ?_
    refine OpsE.ev (Ev.inpStr (bs := Q2.2) (el := 5) H rfl hk4 Tryz.underlying29 Tryz.underlying5 Tryz.underlying9) rfl ?_
    refine OpsE.ev (Ev.move rfl) rfl ?_
    refine OpsE.ev (Ev.buildSt (ps := [(0, sV Q1.2), (1, sV Q2.2), (2, .int .i64 (V.2 : Int))]) (pl := [(0, 1), (1, 1), (2, 1)]) (zv := .agg #[.string .empty, .string .empty, .int .i64 0]) (cs := (gL ⟨Q1.2, Q2.2, V.2⟩).toArray) rfl (by kernel_rfl) (by kernel_rfl) rfl) rfl ?_
    refine OpsE.ex (Ex.call rfl Tryz.call46 (with_spec acc ⟨Q1.2, Q2.2, V.2⟩ lv (by omega) w _ hlvY H)) rfl ?_; (try clear H); rintro v5 w ⟨B5, hs5, H⟩
    refine OpsE.ev (Ev.assign rfl) rfl ?_
    refine OpsE.nil ?_
    have hil2 : (insK Lf.key acc ⟨Q1.2, Q2.2, V.2⟩).length = acc.length + 1 := (insK_perm Lf.key acc ⟨Q1.2, Q2.2, V.2⟩).length_eq
    rw [hY] at H
    refine RunsE.inBlock ?_
    repeat (first | refine .seq ?_ | refine .skip ?_ | refine .block ?_ | refine .inBlock ?_ | refine .yes rfl ?_ | refine .no rfl ?_ | refine .exit rfl ?_)
    refine RunsE.region ?_
    refine OpsE.ev (Ev.move rfl) rfl ?_
    refine OpsE.ev (Ev.add rfl rfl) rfl ?_
    refine OpsE.ev (Ev.assign rfl) rfl ?_
    refine OpsE.nil ?_
    exact nextL (i + 1, V.2, v5, insK Lf.key acc ⟨Q1.2, Q2.2, V.2⟩) _ _ (by simp only; omega) ⟨_, V.1, B5, by simp only; omega, hlp, by simp only; omega, by omega, hin2, hs5.rdS gL_len, H.less (D ++ B) (perm_of fun a => by simp only [List.count_append, List.count_cons]; omega)⟩ ⟨rfl, rfl, rfl, rfl, rfl, rfl, trivial⟩
  clear H hin1
  rintro v w ⟨u, R1, l, B, hlp, hll, hin, hlv, H⟩
  obtain ⟨au, nu, cu, rfl⟩ := hin.isS
  rw [hlp] at hopen
  have hinY : Inp ((b5, Obj.cells (rrL (.slice au nu cu) R1.2).toArray 94 (0, 0)) :: (B ++ X)) (.slice au nu cu) R1.1 := hin.sub fun p hp => .tail _ (List.mem_append_right _ hp)
  have hdn : (R1.1, R1.2) = R1 := rfl
  by_cases h4 : doneM R1 = 0
  · simp only [h4, ne_eq, not_true, if_false] at hopen
    repeat (first | refine .seq ?_ | refine .skip ?_ | refine .block ?_ | refine .inBlock ?_ | refine .yes rfl ?_ | refine .no rfl ?_ | refine .exit rfl ?_)
    refine RunsE.region ?_
    refine OpsE.ev (Ev.loadBlk (n := 2) (vs := rrL (.slice au nu cu) R1.2) H rfl (by kernel_rfl) rfl m0) rfl ?_
    refine OpsE.ex (Ex.call rfl Tryz.call44 (refdone_spec _ R1.1 R1.2 w _ hinY H)) rfl ?_; (try clear H); rintro _ w ⟨rfl, H⟩; rw [hdn, h4]
    refine OpsE.ev (Ev.neq (r := false) rfl rfl rfl) rfl ?_
    refine OpsE.nil ?_
    repeat refine RunsE.seq ?_
    refine RunsE.no rfl ?_
    repeat (first | refine .seq ?_ | refine .skip ?_ | refine .block ?_ | refine .inBlock ?_ | refine .yes rfl ?_ | refine .no rfl ?_ | refine .exit rfl ?_)
    refine RunsE.region ?_
    refine OpsE.ev (Ev.move rfl) rfl ?_
    refine OpsE.ev (Ev.assign rfl) rfl ?_
    refine OpsE.ev (Ev.assign rfl) rfl ?_
    refine OpsE.nil ?_
    repeat (first | refine .seq ?_ | refine .skip ?_ | refine .block ?_ | refine .inBlock ?_ | refine .yes rfl ?_ | refine .no rfl ?_ | refine .exit rfl ?_)
    exact RunsE.ret2 Tryz.func13 rfl rfl rfl (.inr ⟨l, v, B, hopen, hll, rfl, hlv, H.drop⟩)
  · simp only [ne_eq, h4, not_false_eq_true, if_true] at hopen
    repeat (first | refine .seq ?_ | refine .skip ?_ | refine .block ?_ | refine .inBlock ?_ | refine .yes rfl ?_ | refine .no rfl ?_ | refine .exit rfl ?_)
    refine RunsE.region ?_
    refine OpsE.ev (Ev.loadBlk (n := 2) (vs := rrL (.slice au nu cu) R1.2) H rfl (by kernel_rfl) rfl m0) rfl ?_
    refine OpsE.ex (Ex.call rfl Tryz.call44 (refdone_spec _ R1.1 R1.2 w _ hinY H)) rfl ?_; (try clear H); rintro _ w ⟨rfl, H⟩; rw [hdn]
    refine OpsE.ev (Ev.neq (r := true) rfl rfl (bne_iff_ne.2 (by omega))) rfl ?_
    refine OpsE.nil ?_
    repeat refine RunsE.seq ?_
    refine RunsE.yes rfl ?_
    repeat (first | refine .seq ?_ | refine .skip ?_ | refine .block ?_ | refine .inBlock ?_ | refine .yes rfl ?_ | refine .no rfl ?_ | refine .exit rfl ?_)
    refine RunsE.region ?_
    refine OpsE.ev (Ev.assign rfl) rfl ?_
    refine OpsE.ev (Ev.assign rfl) rfl ?_
    refine OpsE.nil ?_
    repeat (first | refine .seq ?_ | refine .skip ?_ | refine .block ?_ | refine .inBlock ?_ | refine .yes rfl ?_ | refine .no rfl ?_ | refine .exit rfl ?_)
    exact RunsE.ret2 Tryz.func13 rfl rfl rfl (.inl ⟨hopen, rfl, H.drop.dropL⟩)

end Go.Proofs.YtflfaiakenahlaaGreatDoor
end
