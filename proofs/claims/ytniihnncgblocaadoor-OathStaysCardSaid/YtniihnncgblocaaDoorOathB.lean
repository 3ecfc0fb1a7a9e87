/-
  Lists of small numbers: slices.Insert of one.
-/
import Derived.Test.YtniihnncgblocaaDoorOathA
namespace Go.Proofs.YtniihnncgblocaaDoor
open Go.Proofs.YtniihnncgblocaaDoor.V

theorem overlaps_run (b c la ca lb cb off : Nat) (hne : c ≠ b) (w : World) {T1 T2 : TypeId} {cs1 cs2 : Array Value} {fr : Nat × Nat} (h1 : w.heap[c]? = some (.cells cs1 T1 (0, 0))) (h2 : w.heap[b]? = some (.cells cs2 T2 fr)) (h0 : cs2.size ≠ 0) :
    (callFunc 38 [.slice (some ⟨c, 0, none⟩) la ca, .slice (some ⟨b, off, none⟩) lb cb].toArray).run Tryd.prog w = .ok (.value (.bool false)) w := by
  have h3 := @run_callFunc_extern Tryd.prog 38 _ (Extern.SlicesOverlaps.overlaps #[23, 23] #[4]) Tryd.func38 (by kernel_rfl) (by kernel_rfl) (by kernel_rfl) (by kernel_rfl)
  rw [h3]
  have h4 := Lib.run_overlaps_apart (P := Tryd.prog) w 23 4 3 Tryd.underlying23 1 (fun w => run_sizeOf_of (by kernel_rfl) w) ⟨c, 0, none⟩ ⟨b, off, none⟩ la ca lb cb hne T1 T2 cs1.size cs2.size (shape_of h1) (shape_of h2) h0 (thaw_of h1) (thaw_of h1)
  rw [h4]
  rfl

theorem ints_cells (xs : List Nat) : xs.flatMap gW = xs.map fun k : Nat => Value.int .i64 (k : Int) := flatMap_one _ xs
theorem ints_drop (xs : List Nat) (i : Nat) : (xs.drop i).flatMap gW = (xs.flatMap gW).drop i := by rw [ints_cells, ints_cells, List.map_drop]
theorem ints_take (xs : List Nat) (i : Nat) : (xs.take i).flatMap gW = (xs.flatMap gW).take i := by rw [ints_cells, ints_cells, List.map_take]
theorem ints_one (xs : List Nat) : ∀ v ∈ xs.flatMap gW, v.oneCell' = true := fun v hv => by
  rw [ints_cells] at hv
  obtain ⟨k, _, rfl⟩ := List.mem_map.1 hv
  rfl

theorem put_rep {pre vs : List Value} {z : Value} {k off : Nat} (ho : pre.length = off) (h : vs.length ≤ k) : putAt (pre ++ List.replicate k z).toArray off vs = ((pre ++ vs) ++ List.replicate (k - vs.length) z).toArray := by
  have e : List.replicate k z = List.replicate vs.length z ++ List.replicate (k - vs.length) z := by
    rw [List.replicate_append_replicate]
    congr 1
    omega
  rw [e, ← List.append_assoc, putAt_append ho (by simp)]

set_option maxHeartbeats 2000000 in
theorem insert_spec [Strm] (v : Value) (xs : List Nat) (i x c : Nat) (hi : i ≤ xs.length) (hx : xs.length ≤ 1000) (w : World) (B F : List (Nat × Obj)) (hs : SlW v xs B) (H : SL w (B ++ ((c, .cells #[.int .i64 (x : Int)] 3 (0, 0)) :: F))) :
    Does Tryd.prog 29 #[v, .int .i64 (i : Int), .slice (some ⟨c, 0, none⟩) 1 1] w fun r w' => ∃ B', SlW r (xs.take i ++ x :: xs.drop i) B' ∧ SL w' (B' ++ F) := by
  obtain ⟨a, cp, rfl, hcp⟩ := hs.leCap
  have hxC : (c, Obj.cells #[.int .i64 (x : Int)] 3 (0, 0)) ∈ B ++ ((c, .cells #[.int .i64 (x : Int)] 3 (0, 0)) :: F) := by simp
  refine Does.intro (args := [_, _, _]) (e := [(0, _), (1, _), (2, _)]) Tryd.func29 rfl Tryd.ntmps29 rfl rfl ?_
  repeat (first | refine RunsE.seq ?_ | refine RunsE.skip ?_ | refine RunsE.block ?_ | refine RunsE.inBlock ?_ | refine RunsE.yes rfl ?_ | refine RunsE.no rfl ?_ | refine RunsE.exit rfl ?_)
  repeat (first | refine RunsE.seq ?_ | refine RunsE.skip ?_ | refine RunsE.block ?_ | refine RunsE.inBlock ?_ | refine RunsE.yes rfl ?_ | refine RunsE.no rfl ?_ | refine RunsE.exit rfl ?_)
  refine RunsE.region ?_
  refine OpsE.ev (Ev.assign rfl) rfl ?_
  refine OpsE.nil ?_
  repeat (first | refine RunsE.seq ?_ | refine RunsE.skip ?_ | refine RunsE.block ?_ | refine RunsE.inBlock ?_ | refine RunsE.yes rfl ?_ | refine RunsE.no rfl ?_ | refine RunsE.exit rfl ?_)
  refine RunsE.region ?_
  refine OpsE.ev (Ev.move rfl) rfl ?_
  refine OpsE.ev (Ev.move rfl) rfl ?_
  refine OpsE.ev (Ev.slSl (el := 3) (sz := 1) rfl (by kernel_rfl) (⟨_, rfl⟩) (rfl) (by omega) (by omega)) rfl ?_
  refine OpsE.nil ?_
  repeat (first | refine RunsE.seq ?_ | refine RunsE.skip ?_ | refine RunsE.block ?_ | refine RunsE.inBlock ?_ | refine RunsE.yes rfl ?_ | refine RunsE.no rfl ?_ | refine RunsE.exit rfl ?_)
  refine RunsE.region ?_
  refine OpsE.ev (Ev.move rfl) rfl ?_
  refine OpsE.ev (Ev.lenSl (d := 3) rfl rfl (by kernel_rfl)) rfl ?_
  refine OpsE.ev (Ev.assign rfl) rfl ?_
  refine OpsE.nil ?_
  repeat (first | refine RunsE.seq ?_ | refine RunsE.skip ?_ | refine RunsE.block ?_ | refine RunsE.inBlock ?_ | refine RunsE.yes rfl ?_ | refine RunsE.no rfl ?_ | refine RunsE.exit rfl ?_)
  refine RunsE.region ?_
  refine OpsE.ev (Ev.move rfl) rfl ?_
  refine OpsE.ev (Ev.eql (r := false) rfl rfl rfl) rfl ?_
  refine OpsE.nil ?_
  repeat (first | refine RunsE.seq ?_ | refine RunsE.skip ?_ | refine RunsE.block ?_ | refine RunsE.inBlock ?_ | refine RunsE.yes rfl ?_ | refine RunsE.no rfl ?_ | refine RunsE.exit rfl ?_)
  repeat (first | refine RunsE.seq ?_ | refine RunsE.skip ?_ | refine RunsE.block ?_ | refine RunsE.inBlock ?_ | refine RunsE.yes rfl ?_ | refine RunsE.no rfl ?_ | refine RunsE.exit rfl ?_)
  refine RunsE.region ?_
  refine OpsE.ev (Ev.move rfl) rfl ?_
  refine OpsE.ev (Ev.lenSl (d := 3) rfl rfl (by kernel_rfl)) rfl ?_
  refine OpsE.ev (Ev.assign rfl) rfl ?_
  refine OpsE.nil ?_
  by_cases h1 : i = xs.length
  · subst h1
    repeat (first | refine RunsE.seq ?_ | refine RunsE.skip ?_ | refine RunsE.block ?_ | refine RunsE.inBlock ?_ | refine RunsE.yes rfl ?_ | refine RunsE.no rfl ?_ | refine RunsE.exit rfl ?_)
    refine RunsE.region ?_
    refine OpsE.ev (Ev.move rfl) rfl ?_
    refine OpsE.ev (Ev.move rfl) rfl ?_
    refine OpsE.ev (Ev.eql (r := true) rfl rfl (beq_iff_eq.2 rfl)) rfl ?_
    refine OpsE.nil ?_
    repeat (first | refine RunsE.seq ?_ | refine RunsE.skip ?_ | refine RunsE.block ?_ | refine RunsE.inBlock ?_ | refine RunsE.yes rfl ?_ | refine RunsE.no rfl ?_ | refine RunsE.exit rfl ?_)
    repeat (first | refine RunsE.seq ?_ | refine RunsE.skip ?_ | refine RunsE.block ?_ | refine RunsE.inBlock ?_ | refine RunsE.yes rfl ?_ | refine RunsE.no rfl ?_ | refine RunsE.exit rfl ?_)
    refine RunsE.region ?_
    refine OpsE.ev (Ev.move rfl) rfl ?_
    refine OpsE.ev (Ev.move rfl) rfl ?_
    refine OpsE.ex (Ex.append (T := 3) (g := gW) (sz := 1) (by_ := 8) (zv := .int .i64 0) (xs := xs) (ys := [x]) H rfl rfl hs (Src.row0 H.unmid m0 rfl) (fun _ => rfl) gW_one (by kernel_rfl) (by kernel_rfl) (by kernel_rfl) (by kernel_rfl) rfl (by simp only [List.length_singleton]; omega) (by simp only [List.length_singleton]; omega)) rfl ?_; (try clear H); rintro v' w ⟨B', hs', H⟩
    refine OpsE.ev (Ev.assign rfl) rfl ?_
    refine OpsE.nil ?_
    repeat (first | refine RunsE.seq ?_ | refine RunsE.skip ?_ | refine RunsE.block ?_ | refine RunsE.inBlock ?_ | refine RunsE.yes rfl ?_ | refine RunsE.no rfl ?_ | refine RunsE.exit rfl ?_)
    exact RunsE.ret1 Tryd.func29 rfl rfl ⟨B', by rw [List.take_length, List.drop_length]; exact hs', H.dropMid⟩
  have hil : i < xs.length := by omega
  repeat (first | refine RunsE.seq ?_ | refine RunsE.skip ?_ | refine RunsE.block ?_ | refine RunsE.inBlock ?_ | refine RunsE.yes rfl ?_ | refine RunsE.no rfl ?_ | refine RunsE.exit rfl ?_)
  refine RunsE.region ?_
  refine OpsE.ev (Ev.move rfl) rfl ?_
  refine OpsE.ev (Ev.move rfl) rfl ?_
  refine OpsE.ev (Ev.eql (r := false) rfl rfl (beq_eq_false_iff_ne.2 (by omega))) rfl ?_
  refine OpsE.nil ?_
  repeat (first | refine RunsE.seq ?_ | refine RunsE.skip ?_ | refine RunsE.block ?_ | refine RunsE.inBlock ?_ | refine RunsE.yes rfl ?_ | refine RunsE.no rfl ?_ | refine RunsE.exit rfl ?_)
  obtain ⟨b, cp', spare, fr, ev, rfl, hsp, hle, hfr⟩ := hs.shape (by omega)
  cases ev
  have hlen : (xs.flatMap gW).length = xs.length := by rw [ints_cells, List.length_map]
  have hcell : ∀ (L : List (Nat × Obj)) (k : Nat) v, (xs.flatMap gW)[k]? = some v → Rd ([(b, Obj.cells (xs.flatMap gW ++ spare).toArray 3 fr)] ++ L) ⟨b, k, none⟩ v := fun L k v hk => Rd.mk (.head _) (by
    have hlt : k < (xs.flatMap gW).length := by
      rcases Nat.lt_or_ge k (xs.flatMap gW).length with h | h
      · exact h
      · rw [List.getElem?_eq_none h] at hk; cases hk
    rw [List.getElem?_toArray, List.getElem?_append_left hlt]
    exact hk)
  have hdrop : ∀ (L : List (Nat × Obj)) (k : Nat) v, ((xs.drop i).flatMap gW)[k]? = some v → Rd ([(b, Obj.cells (xs.flatMap gW ++ spare).toArray 3 fr)] ++ L) ((⟨b, i, none⟩ : Addr).add k) v := fun L k v hk => by
    rw [add_none]
    rw [ints_drop, List.getElem?_drop] at hk
    exact hcell L _ v hk
  have htl : ((xs.take i).flatMap gW).length = i := by rw [ints_cells, List.length_map, List.length_take]; omega
  have hdl : ((xs.drop i).flatMap gW).length = xs.length - i := by rw [ints_cells, List.length_map, List.length_drop]
  have hzl : (xs.take i ++ x :: xs.drop i).length = xs.length + 1 := by rw [List.length_append, List.length_take, List.length_cons, List.length_drop]; omega
  by_cases h2 : cp < xs.length + 1
  · have htake : RdS ([(b, Obj.cells (xs.flatMap gW ++ spare).toArray 3 fr)] ++ ((c, .cells #[.int .i64 (x : Int)] 3 (0, 0)) :: F)) 1 (.slice (some ⟨b, 0, none⟩) i cp) i ((xs.take i).flatMap gW) := .blk b 0 i cp _ (by rw [htl, Nat.mul_one]) (by omega) fun k v hk => by
      rw [Nat.zero_add]
      rw [ints_take, List.getElem?_take] at hk
      split at hk
      · exact hcell _ k v hk
      · cases hk
    repeat (first | refine RunsE.seq ?_ | refine RunsE.skip ?_ | refine RunsE.block ?_ | refine RunsE.inBlock ?_ | refine RunsE.yes rfl ?_ | refine RunsE.no rfl ?_ | refine RunsE.exit rfl ?_)
    refine RunsE.region ?_
    refine OpsE.ev (Ev.move rfl) rfl ?_
    refine OpsE.ev (Ev.move rfl) rfl ?_
    refine OpsE.ev (Ev.add (c := ((xs.length + 1 : Nat) : Int)) rfl rfl (by (try simp only); rw [qi64 (by omega) (by omega)]; omega)) rfl ?_
    refine OpsE.ev (Ev.move rfl) rfl ?_
    refine OpsE.ev (Ev.capSl rfl rfl Tryd.underlying23) rfl ?_
    refine OpsE.ev (Ev.gtr (r := true) rfl rfl (decide_eq_true (by omega))) rfl ?_
    refine OpsE.nil ?_
    repeat (first | refine RunsE.seq ?_ | refine RunsE.skip ?_ | refine RunsE.block ?_ | refine RunsE.inBlock ?_ | refine RunsE.yes rfl ?_ | refine RunsE.no rfl ?_ | refine RunsE.exit rfl ?_)
    repeat (first | refine RunsE.seq ?_ | refine RunsE.skip ?_ | refine RunsE.block ?_ | refine RunsE.inBlock ?_ | refine RunsE.yes rfl ?_ | refine RunsE.no rfl ?_ | refine RunsE.exit rfl ?_)
    refine RunsE.region ?_
    refine OpsE.ev (Ev.move rfl) rfl ?_
    refine OpsE.ev (Ev.move rfl) rfl ?_
    refine OpsE.ev (Ev.slAt (el := 3) (sz := 1) (l := 0) (h := i) (o := 0) (n' := i) (c' := cp) rfl (by kernel_rfl) rfl ⟨_, rfl⟩ (by omega) (by omega) (by omega) (by omega) (by omega) (by omega) (by omega)) rfl ?_
    refine OpsE.ev (Ev.move rfl) rfl ?_
    refine OpsE.ev (Ev.move rfl) rfl ?_
    refine OpsE.ev (Ev.add (c := ((xs.length + 1 : Nat) : Int)) rfl rfl (by (try simp only); rw [qi64 (by omega) (by omega)]; omega)) rfl ?_
    refine OpsE.ev (Ev.move rfl) rfl ?_
    refine OpsE.ev (Ev.sub (c := ((xs.length + 1 - i : Nat) : Int)) rfl rfl (by (try simp only); rw [qi64 (by omega) (by omega)]; omega)) rfl ?_
    refine OpsE.ex (Ex.appendMake (el := 3) (n := i) (m := xs.length + 1 - i) (vs := (xs.take i).flatMap gW) H rfl rfl htake (by omega) (by omega) (by omega) (by kernel_rfl) Tryd.underlying3 (by kernel_rfl) (by kernel_rfl)) rfl ?_; (try clear H); rintro _ w ⟨b9, cap', rfl, hc', H⟩
    refine OpsE.ev (Ev.assign rfl) rfl ?_
    refine OpsE.nil ?_
    repeat (first | refine RunsE.seq ?_ | refine RunsE.skip ?_ | refine RunsE.block ?_ | refine RunsE.inBlock ?_ | refine RunsE.yes rfl ?_ | refine RunsE.no rfl ?_ | refine RunsE.exit rfl ?_)
    refine RunsE.region ?_
    refine OpsE.ev (Ev.move rfl) rfl ?_
    refine OpsE.ev (Ev.move rfl) rfl ?_
    refine OpsE.ev (Ev.slAt (el := 3) (sz := 1) (l := i) (o := i) (n' := xs.length + 1 - i) (c' := cap' - i) rfl (by kernel_rfl) ⟨_, rfl⟩ rfl (by omega) (by omega) (by omega) (by omega) (by omega) (by omega) (by omega)) rfl ?_
    refine OpsE.ev (Ev.move rfl) rfl ?_
    refine OpsE.ex (Ex.copy (el := 3) (n := 1) (sz := 1) (vs := [.int .i64 (x : Int)]) H rfl rfl (by kernel_rfl) (by simp only [Nat.min_def]; split <;> omega) rfl (fun k v hk => by rw [add_none, Nat.zero_add]; exact Rd.mk (.tail _ hxC) (by simpa using hk)) (by simp [Value.oneCell']) u0 (by simp only [List.size_toArray, List.length_append, htl, List.length_replicate]; omega) (Thaw.zero _ _) (put_rep htl (by simp only [List.length_singleton]; omega))) rfl ?_; (try clear H); rintro _ w ⟨rfl, H⟩
    refine OpsE.nil ?_
    repeat (first | refine RunsE.seq ?_ | refine RunsE.skip ?_ | refine RunsE.block ?_ | refine RunsE.inBlock ?_ | refine RunsE.yes rfl ?_ | refine RunsE.no rfl ?_ | refine RunsE.exit rfl ?_)
    refine RunsE.drawS H [8] (by kernel_rfl) ?_; (try clear H); intro w H
    refine OpsD.take 0 rfl (by kernel_rfl) (by first | exact H | exact H.drop | exact H.drop.drop | exact H.dropL | exact H.drop.dropL | exact H.dropL.drop | exact H.dropL.dropL | exact H.dropMid) (fun w H => Ev.move rfl) rfl ?_
    refine OpsD.take 1 rfl (by kernel_rfl) (by first | exact H | exact H.drop | exact H.drop.drop | exact H.dropL | exact H.drop.dropL | exact H.dropL.drop | exact H.dropL.dropL | exact H.dropMid) (fun w H => Ev.move rfl) rfl ?_
    refine OpsD.take 2 rfl (by kernel_rfl) (by first | exact H | exact H.drop | exact H.drop.drop | exact H.dropL | exact H.drop.dropL | exact H.dropL.drop | exact H.dropL.dropL | exact H.dropMid) (fun w H => Ev.move rfl) rfl ?_
    refine OpsD.take 3 rfl (by kernel_rfl) (by first | exact H | exact H.drop | exact H.drop.drop | exact H.dropL | exact H.drop.dropL | exact H.dropL.drop | exact H.dropL.dropL | exact H.dropMid) (fun w H => Ev.add (c := ((i + 1 : Nat) : Int)) rfl rfl (by (try simp only); rw [qi64 (by omega) (by omega)]; omega)) rfl ?_
    refine OpsD.take 4 rfl (by kernel_rfl) (by first | exact H | exact H.drop | exact H.drop.drop | exact H.dropL | exact H.drop.dropL | exact H.dropL.drop | exact H.dropL.dropL | exact H.dropMid) (fun w H => Ev.slAt (el := 3) (sz := 1) (l := i + 1) (o := i + 1) (n' := xs.length - i) (c' := cap' - (i + 1)) rfl (by kernel_rfl) ⟨_, rfl⟩ rfl (by omega) (by omega) (by omega) (by omega) (by omega) (by omega) (by omega)) rfl ?_
    refine OpsD.take 5 rfl (by kernel_rfl) (by first | exact H | exact H.drop | exact H.drop.drop | exact H.dropL | exact H.drop.dropL | exact H.dropL.drop | exact H.dropL.dropL | exact H.dropMid) (fun w H => Ev.move rfl) rfl ?_
    refine OpsD.take 6 rfl (by kernel_rfl) (by first | exact H | exact H.drop | exact H.drop.drop | exact H.dropL | exact H.drop.dropL | exact H.dropL.drop | exact H.dropL.dropL | exact H.dropMid) (fun w H => Ev.move rfl) rfl ?_
    refine OpsD.take 7 rfl (by kernel_rfl) (by first | exact H | exact H.drop | exact H.drop.drop | exact H.dropL | exact H.drop.dropL | exact H.dropL.drop | exact H.dropL.dropL | exact H.dropMid) (fun w H => Ev.slAt (el := 3) (sz := 1) (l := i) (o := i) (n' := xs.length - i) (c' := cp - i) rfl (by kernel_rfl) ⟨_, rfl⟩ rfl (by omega) (by omega) (by omega) (by omega) (by omega) (by omega) (by omega)) rfl ?_
    refine OpsD.one 8 (by kernel_rfl) (StepD.exT rfl rfl (Ex.copy (el := 3) (n := xs.length - i) (sz := 1) (vs := (xs.drop i).flatMap gW) H rfl rfl (by kernel_rfl) (Nat.min_self _) (by rw [hdl, Nat.mul_one]) (fun k v hk => (hdrop _ k v hk).tail) (ints_one _) u0 (by simp only [List.size_toArray, List.length_append, htl, List.length_singleton, List.length_replicate]; omega) (Thaw.zero _ _) (put_rep (by simp only [List.length_append, htl, List.length_singleton]) (by simp only [hdl, List.length_singleton]; omega))) rfl ?_); (try clear H); rintro _ w ⟨rfl, H⟩
    refine OpsD.done (by kernel_rfl) ?_
    repeat (first | refine RunsE.seq ?_ | refine RunsE.skip ?_ | refine RunsE.block ?_ | refine RunsE.inBlock ?_ | refine RunsE.yes rfl ?_ | refine RunsE.no rfl ?_ | refine RunsE.exit rfl ?_)
    refine RunsE.region ?_
    refine OpsE.ev (Ev.move rfl) rfl ?_
    refine OpsE.ev (Ev.assign rfl) rfl ?_
    refine OpsE.nil ?_
    repeat (first | refine RunsE.seq ?_ | refine RunsE.skip ?_ | refine RunsE.block ?_ | refine RunsE.inBlock ?_ | refine RunsE.yes rfl ?_ | refine RunsE.no rfl ?_ | refine RunsE.exit rfl ?_)
    refine RunsE.ret1 Tryd.func29 rfl rfl ⟨[(b9, _)], ?_, H.sublist (List.Sublist.cons_cons _ ((List.sublist_cons_self _ _).trans (List.sublist_cons_self _ _)))⟩
    have h5 := Slc.blk (g := gW) (sz := 1) (T := 3) b9 (xs.take i ++ x :: xs.drop i) cap' (List.replicate (cap' - xs.length - 1) (.int .i64 0)) (0, 0) (by rw [hzl, List.length_replicate]; omega) (by omega) (Thaw.zero _ _)
    rw [hzl] at h5
    have e1 : i + (xs.length + 1 - i) = xs.length + 1 := by omega
    have e2 : (xs.take i ++ x :: xs.drop i).flatMap gW = ((xs.take i).flatMap gW ++ [Value.int .i64 (x : Int)]) ++ (xs.drop i).flatMap gW := by simp
    have e3 : cap' - i - [Value.int .i64 (x : Int)].length - ((xs.drop i).flatMap gW).length = cap' - xs.length - 1 := by rw [hdl, List.length_singleton]; omega
    rw [e2] at h5
    rw [e1, e3]
    exact h5
  · have hne : c ≠ b := by
      have h5 := H.2.1
      simp only [List.singleton_append, List.map_cons, List.nodup_cons, List.mem_cons] at h5
      intro h
      exact h5.1 (.inl h.symm)
    have hsl : 1 ≤ spare.length := by omega
    have hpre : ((xs.take (i + 1)).flatMap gW).length = i + 1 := by rw [ints_cells, List.length_map, List.length_take]; omega
    have hsucc : (xs.take (i + 1)).flatMap gW = (xs.take i).flatMap gW ++ [Value.int .i64 ((xs.getD i 0 : Nat) : Int)] := by
      rw [List.take_add_one, getD_at hil]
      simp
    have hput1 : putAt (xs.flatMap gW ++ spare).toArray (i + 1) ((xs.drop i).flatMap gW) = (((xs.take i).flatMap gW ++ [Value.int .i64 ((xs.getD i 0 : Nat) : Int)]) ++ ((xs.drop i).flatMap gW ++ spare.drop 1)).toArray := by
      have e1 : xs.flatMap gW ++ spare = (xs.take (i + 1)).flatMap gW ++ ((xs.drop (i + 1)).flatMap gW ++ spare.take 1) ++ spare.drop 1 := by
        rw [← List.append_assoc, ← List.flatMap_append, List.take_append_drop, List.append_assoc, List.take_append_drop]
      rw [e1, putAt_append hpre (by rw [hdl, List.length_append, ints_cells, List.length_map, List.length_drop, List.length_take]; omega), hsucc, List.append_assoc]
    have hput2 : putAt (((xs.take i).flatMap gW ++ [Value.int .i64 ((xs.getD i 0 : Nat) : Int)]) ++ ((xs.drop i).flatMap gW ++ spare.drop 1)).toArray i [Value.int .i64 (x : Int)] = ((xs.take i ++ x :: xs.drop i).flatMap gW ++ spare.drop 1).toArray := by
      rw [putAt_append (mid := [Value.int .i64 ((xs.getD i 0 : Nat) : Int)]) (vs := [Value.int .i64 (x : Int)]) htl rfl]
      congr 1
      simp
    repeat (first | refine RunsE.seq ?_ | refine RunsE.skip ?_ | refine RunsE.block ?_ | refine RunsE.inBlock ?_ | refine RunsE.yes rfl ?_ | refine RunsE.no rfl ?_ | refine RunsE.exit rfl ?_)
    refine RunsE.region ?_
    refine OpsE.ev (Ev.move rfl) rfl ?_
    refine OpsE.ev (Ev.move rfl) rfl ?_
    refine OpsE.ev (Ev.add (c := ((xs.length + 1 : Nat) : Int)) rfl rfl (by (try simp only); rw [qi64 (by omega) (by omega)]; omega)) rfl ?_
    refine OpsE.ev (Ev.move rfl) rfl ?_
    refine OpsE.ev (Ev.capSl rfl rfl Tryd.underlying23) rfl ?_
    refine OpsE.ev (Ev.gtr (r := false) rfl rfl (decide_eq_false (by omega))) rfl ?_
    refine OpsE.nil ?_
    repeat (first | refine RunsE.seq ?_ | refine RunsE.skip ?_ | refine RunsE.block ?_ | refine RunsE.inBlock ?_ | refine RunsE.yes rfl ?_ | refine RunsE.no rfl ?_ | refine RunsE.exit rfl ?_)
    repeat (first | refine RunsE.seq ?_ | refine RunsE.skip ?_ | refine RunsE.block ?_ | refine RunsE.inBlock ?_ | refine RunsE.yes rfl ?_ | refine RunsE.no rfl ?_ | refine RunsE.exit rfl ?_)
    refine RunsE.region ?_
    refine OpsE.ev (Ev.move rfl) rfl ?_
    refine OpsE.ev (Ev.move rfl) rfl ?_
    refine OpsE.ev (Ev.move rfl) rfl ?_
    refine OpsE.ev (Ev.add (c := ((xs.length + 1 : Nat) : Int)) rfl rfl (by (try simp only); rw [qi64 (by omega) (by omega)]; omega)) rfl ?_
    refine OpsE.ev (Ev.slAt (el := 3) (sz := 1) (l := 0) (h := xs.length + 1) (o := 0) (n' := xs.length + 1) (c' := cp) rfl (by kernel_rfl) rfl ⟨_, rfl⟩ (by omega) (by omega) (by omega) (by omega) (by omega) (by omega) (by omega)) rfl ?_
    refine OpsE.ev (Ev.assign rfl) rfl ?_
    refine OpsE.nil ?_
    repeat (first | refine RunsE.seq ?_ | refine RunsE.skip ?_ | refine RunsE.block ?_ | refine RunsE.inBlock ?_ | refine RunsE.yes rfl ?_ | refine RunsE.no rfl ?_ | refine RunsE.exit rfl ?_)
    refine RunsE.region ?_
    refine OpsE.ev (Ev.move rfl) rfl ?_
    refine OpsE.ev (Ev.move rfl) rfl ?_
    refine OpsE.ev (Ev.move rfl) rfl ?_
    refine OpsE.ev (Ev.move rfl) rfl ?_
    refine OpsE.ev (Ev.add (c := ((i + 1 : Nat) : Int)) rfl rfl (by (try simp only); rw [qi64 (by omega) (by omega)]; omega)) rfl ?_
    refine OpsE.ev (Ev.slAt (el := 3) (sz := 1) (l := i + 1) (o := i + 1) (n' := xs.length - i) (c' := cp - (i + 1)) rfl (by kernel_rfl) ⟨_, rfl⟩ rfl (by omega) (by omega) (by omega) (by omega) (by omega) (by omega) (by omega)) rfl ?_
    refine OpsE.ex (Ex.callX rfl (overlaps_run b c 1 1 (xs.length - i) (cp - (i + 1)) (i + 1) hne w (H.1 _ (.tail _ (.head _))) (H.1 _ (.head _)) (by simp only [List.size_toArray, List.length_append]; omega))) rfl ?_; rintro _ _ ⟨rfl, rfl⟩
    refine OpsE.ev (Ev.not rfl) rfl ?_
    refine OpsE.nil ?_
    repeat (first | refine RunsE.seq ?_ | refine RunsE.skip ?_ | refine RunsE.block ?_ | refine RunsE.inBlock ?_ | refine RunsE.yes rfl ?_ | refine RunsE.no rfl ?_ | refine RunsE.exit rfl ?_)
    repeat (first | refine RunsE.seq ?_ | refine RunsE.skip ?_ | refine RunsE.block ?_ | refine RunsE.inBlock ?_ | refine RunsE.yes rfl ?_ | refine RunsE.no rfl ?_ | refine RunsE.exit rfl ?_)
    refine RunsE.drawS H [8] (by kernel_rfl) ?_; (try clear H); intro w H
    refine OpsD.take 0 rfl (by kernel_rfl) (by first | exact H | exact H.drop | exact H.drop.drop | exact H.dropL | exact H.drop.dropL | exact H.dropL.drop | exact H.dropL.dropL | exact H.dropMid) (fun w H => Ev.move rfl) rfl ?_
    refine OpsD.take 1 rfl (by kernel_rfl) (by first | exact H | exact H.drop | exact H.drop.drop | exact H.dropL | exact H.drop.dropL | exact H.dropL.drop | exact H.dropL.dropL | exact H.dropMid) (fun w H => Ev.move rfl) rfl ?_
    refine OpsD.take 2 rfl (by kernel_rfl) (by first | exact H | exact H.drop | exact H.drop.drop | exact H.dropL | exact H.drop.dropL | exact H.dropL.drop | exact H.dropL.dropL | exact H.dropMid) (fun w H => Ev.move rfl) rfl ?_
    refine OpsD.take 3 rfl (by kernel_rfl) (by first | exact H | exact H.drop | exact H.drop.drop | exact H.dropL | exact H.drop.dropL | exact H.dropL.drop | exact H.dropL.dropL | exact H.dropMid) (fun w H => Ev.add (c := ((i + 1 : Nat) : Int)) rfl rfl (by (try simp only); rw [qi64 (by omega) (by omega)]; omega)) rfl ?_
    refine OpsD.take 4 rfl (by kernel_rfl) (by first | exact H | exact H.drop | exact H.drop.drop | exact H.dropL | exact H.drop.dropL | exact H.dropL.drop | exact H.dropL.dropL | exact H.dropMid) (fun w H => Ev.slAt (el := 3) (sz := 1) (l := i + 1) (o := i + 1) (n' := xs.length - i) (c' := cp - (i + 1)) rfl (by kernel_rfl) ⟨_, rfl⟩ rfl (by omega) (by omega) (by omega) (by omega) (by omega) (by omega) (by omega)) rfl ?_
    refine OpsD.take 5 rfl (by kernel_rfl) (by first | exact H | exact H.drop | exact H.drop.drop | exact H.dropL | exact H.drop.dropL | exact H.dropL.drop | exact H.dropL.dropL | exact H.dropMid) (fun w H => Ev.move rfl) rfl ?_
    refine OpsD.take 6 rfl (by kernel_rfl) (by first | exact H | exact H.drop | exact H.drop.drop | exact H.dropL | exact H.drop.dropL | exact H.dropL.drop | exact H.dropL.dropL | exact H.dropMid) (fun w H => Ev.move rfl) rfl ?_
    refine OpsD.take 7 rfl (by kernel_rfl) (by first | exact H | exact H.drop | exact H.drop.drop | exact H.dropL | exact H.drop.dropL | exact H.dropL.drop | exact H.dropL.dropL | exact H.dropMid) (fun w H => Ev.slAt (el := 3) (sz := 1) (l := i) (o := i) (n' := xs.length + 1 - i) (c' := cp - i) rfl (by kernel_rfl) ⟨_, rfl⟩ rfl (by omega) (by omega) (by omega) (by omega) (by omega) (by omega) (by omega)) rfl ?_
    refine OpsD.one 8 (by kernel_rfl) (StepD.exT rfl rfl (Ex.copy (el := 3) (n := xs.length - i) (sz := 1) (vs := (xs.drop i).flatMap gW) H rfl rfl (by kernel_rfl) (by simp only [Nat.min_def]; split <;> omega) (by rw [hdl, Nat.mul_one]) (fun k v hk => hdrop _ k v hk) (ints_one _) u0 (by simp only [List.size_toArray, List.length_append, hlen]; omega) (hfr.sub (by omega)) hput1) rfl ?_); (try clear H); rintro _ w ⟨rfl, H⟩
    refine OpsD.done (by kernel_rfl) ?_
    repeat (first | refine RunsE.seq ?_ | refine RunsE.skip ?_ | refine RunsE.block ?_ | refine RunsE.inBlock ?_ | refine RunsE.yes rfl ?_ | refine RunsE.no rfl ?_ | refine RunsE.exit rfl ?_)
    refine RunsE.region ?_
    refine OpsE.ev (Ev.move rfl) rfl ?_
    refine OpsE.ev (Ev.move rfl) rfl ?_
    refine OpsE.ev (Ev.slAt (el := 3) (sz := 1) (l := i) (o := i) (n' := xs.length + 1 - i) (c' := cp - i) rfl (by kernel_rfl) ⟨_, rfl⟩ rfl (by omega) (by omega) (by omega) (by omega) (by omega) (by omega) (by omega)) rfl ?_
    refine OpsE.ev (Ev.move rfl) rfl ?_
    refine OpsE.ex (Ex.copy (el := 3) (n := 1) (sz := 1) (vs := [.int .i64 (x : Int)]) H rfl rfl (by kernel_rfl) (by simp only [Nat.min_def]; split <;> omega) rfl (fun k v hk => by rw [add_none, Nat.zero_add]; exact Rd.mk (.tail _ (.head _)) (by simpa using hk)) (by simp [Value.oneCell']) u0 (by simp only [List.size_toArray, List.length_append, htl, hdl, List.length_singleton, List.length_drop]; omega) (hfr.sub (by omega)) hput2) rfl ?_; (try clear H); rintro _ w ⟨rfl, H⟩
    refine OpsE.nil ?_
    repeat (first | refine RunsE.seq ?_ | refine RunsE.skip ?_ | refine RunsE.block ?_ | refine RunsE.inBlock ?_ | refine RunsE.yes rfl ?_ | refine RunsE.no rfl ?_ | refine RunsE.exit rfl ?_)
    refine RunsE.region ?_
    refine OpsE.ev (Ev.move rfl) rfl ?_
    refine OpsE.ev (Ev.assign rfl) rfl ?_
    refine OpsE.nil ?_
    repeat (first | refine RunsE.seq ?_ | refine RunsE.skip ?_ | refine RunsE.block ?_ | refine RunsE.inBlock ?_ | refine RunsE.yes rfl ?_ | refine RunsE.no rfl ?_ | refine RunsE.exit rfl ?_)
    refine RunsE.ret1 Tryd.func29 rfl rfl ⟨[(b, _)], ?_, H.sublist (List.Sublist.cons_cons _ (List.sublist_cons_self _ _))⟩
    have h5 := Slc.blk (g := gW) (sz := 1) (T := 3) b (xs.take i ++ x :: xs.drop i) cp (spare.drop 1) fr (by rw [hzl, List.length_drop]; omega) (by omega) hfr
    rw [hzl] at h5
    exact h5

end Go.Proofs.YtniihnncgblocaaDoor
