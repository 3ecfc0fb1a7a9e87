/-
  The proof's parts, in one file: ShZ2.
-/
import Derived.Test.YtflfaiakenahlaaGreatDoorM8

section
/-
  The document's shelf, walked: with, Root; the laws' own: give, long.
-/
namespace Go.Proofs.YtflfaiakenahlaaGreatDoor.V

/-- What is gone through of changes, in bytes. -/
def sizeM (cs : List Ch) : Nat := (cs.map fun c => c.key.length + c.val.length).sum
def longM (cs : List Ch) : Bool := decide (60 < cs.length) || decide (20000 < sizeM (cs.take 100))

theorem sizeM_snoc (cs : List Ch) (c : Ch) : sizeM (cs ++ [c]) = sizeM cs + c.key.length + c.val.length := by
  unfold sizeM
  rw [List.map_append, List.sum_append]
  simp
  omega
theorem sizeM_le {n : Nat} : ∀ {cs : List Ch}, (∀ c ∈ cs, c.key.length ≤ n ∧ c.val.length ≤ n) → sizeM cs ≤ cs.length * (2 * n)
  | [], _ => by simp [sizeM]
  | c :: r, h => by
    have h1 := h c (.head _)
    have h2 := sizeM_le (cs := r) fun x hx => h x (.tail _ hx)
    have : sizeM (c :: r) = c.key.length + c.val.length + sizeM r := by simp [sizeM]
    rw [this, List.length_cons, Nat.add_mul]
    omega

theorem sizeM_mem {c : Ch} : ∀ {cs : List Ch}, c ∈ cs → c.key.length + c.val.length ≤ sizeM cs
  | [], h => by cases h
  | x :: r, h => by
    have : sizeM (x :: r) = x.key.length + x.val.length + sizeM r := by simp [sizeM]
    rw [this]
    rcases List.mem_cons.1 h with rfl | h
    · omega
    · have := sizeM_mem h; omega

theorem longM_no {cs : List Ch} (h : longM cs = false) : cs.length ≤ 60 ∧ ∀ c ∈ cs, c.key.length ≤ 20000 ∧ c.val.length ≤ 20000 := by
  unfold longM at h
  simp only [Bool.or_eq_false_iff, decide_eq_false_iff_not] at h
  obtain ⟨h1, h2⟩ := h
  rw [List.take_of_length_le (by omega)] at h2
  refine ⟨by omega, fun c hc => ?_⟩
  have := sizeM_mem hc
  omega

/-- The document's root, place by place. -/
def rootN (l : List Lf) (n : Nat) : List UInt8 := encU l.length ++ ((List.range' 1 n).flatMap fun p => (l.filter fun y => decide (y.place = p)).flatMap fun _ => encU p)

theorem flat_const {α : Type} (bs : List UInt8) : ∀ xs : List α, (xs.flatMap fun _ => bs).length = xs.length * bs.length
  | [] => by simp
  | _ :: r => by rw [List.flatMap_cons, List.length_append, flat_const bs r, List.length_cons, Nat.add_mul]; omega

theorem filter_one : ∀ {l : List Lf} {p : Nat}, (l.map Lf.place).Nodup → (l.filter fun y => decide (y.place = p)).length = if (l.any fun y => decide (y.place = p)) then 1 else 0
  | [], p, _ => rfl
  | y :: r, p, h => by
    rw [List.map_cons, List.nodup_cons] at h
    have ih := filter_one (p := p) h.2
    rw [List.filter_cons, List.any_cons]
    by_cases hy : y.place = p
    · have hno : (r.any fun y => decide (y.place = p)) = false := List.any_eq_false.2 fun z hz => by
        have : z.place ≠ p := fun he => h.1 (by rw [hy, ← he]; exact List.mem_map_of_mem (f := Lf.place) hz)
        simp [this]
      rw [hno] at ih
      simp [hy]
      simpa using ih
    · simp [hy, ih]

theorem rootN_eq {l : List Lf} {count : Nat} (h : OkL l count) : rootN l (count - 1) = rootM l count := by
  unfold rootN rootM usedM
  congr 1
  generalize List.range' 1 (count - 1) = ps
  induction ps with
  | nil => rfl
  | cons p r ih =>
    rw [List.flatMap_cons, ih, List.filter_cons]
    have h1 := filter_one (p := p) h.pl
    cases ha : (l.any fun y => decide (y.place = p)) with
    | true =>
      rw [ha, if_pos rfl] at h1
      obtain ⟨z, hz⟩ := List.length_eq_one_iff.1 h1
      rw [hz]
      simp
    | false =>
      rw [ha] at h1
      simp only [Bool.false_eq_true, if_false] at h1
      rw [List.eq_nil_of_length_eq_zero h1]
      simp

theorem rootN_len {l : List Lf} (h : (l.map Lf.place).Nodup) : ∀ n, ((List.range' 1 n).flatMap fun p => (l.filter fun y => decide (y.place = p)).flatMap fun _ => encU p).length ≤ 9 * n := by
  intro n
  generalize hps : List.range' 1 n = ps
  have hl : ps.length = n := by rw [← hps, List.length_range']
  clear hps
  induction ps generalizing n with
  | nil => simp
  | cons p r ih =>
    rw [List.flatMap_cons, List.length_append]
    have h1 := filter_one (p := p) h
    have h2 := ih r.length rfl
    rw [List.length_cons] at hl
    have h3 : ((l.filter fun y => decide (y.place = p)).flatMap fun _ => encU p).length ≤ 9 := by
      have h4 := encU_len p
      cases hf : (l.filter fun y => decide (y.place = p)) with
      | nil => simp
      | cons a r =>
        rw [hf, List.length_cons] at h1
        have : r = [] := List.eq_nil_of_length_eq_zero (by split at h1 <;> omega)
        subst this
        simp
        omega
    omega

end Go.Proofs.YtflfaiakenahlaaGreatDoor.V
namespace Go.Proofs.YtflfaiakenahlaaGreatDoor
open Go.Proofs.YtflfaiakenahlaaGreatDoor.V

set_option maxHeartbeats 1000000 in
theorem with_spec [Strm] (l : List Lf) (x : Lf) (v : Value) (hl : l.length ≤ 100000) (w : World) (X : List (Nat × Obj)) (hv : LsAt X v l) (H : SL w X) :
    Does Tryz.prog 46 #[v, .agg (gL x).toArray] w fun r w' => ∃ B, Slc gL 3 64 r (insK Lf.key l x) B ∧ SL w' (B ++ X) := by
  obtain ⟨av, cv, rfl, hcv⟩ := hv.len
  obtain ⟨p, hp⟩ : ∃ p, p = fun y : Lf => decide (y.key < x.key) := ⟨_, rfl⟩
  refine Does.intro (args := [_, _]) (e := [(0, _), (1, _)]) Tryz.func46 rfl Tryz.ntmps46 rfl rfl ?_
  repeat (first | refine .seq ?_ | refine .skip ?_ | refine .block ?_ | refine .inBlock ?_ | refine .yes rfl ?_ | refine .no rfl ?_ | refine .exit rfl ?_)
  repeat (first | refine .seq ?_ | refine .skip ?_ | refine .block ?_ | refine .inBlock ?_ | refine .yes rfl ?_ | refine .no rfl ?_ | refine .exit rfl ?_)
  refine RunsE.region ?_
  refine OpsE.ex (Ex.box H rfl) rfl ?_; (try clear H); rintro _ w ⟨b3, rfl, H⟩; simp only [Value.cells] at H
  refine OpsE.ev (Ev.assign rfl) rfl ?_
  refine OpsE.nil ?_
  repeat (first | refine .seq ?_ | refine .skip ?_ | refine .block ?_ | refine .inBlock ?_ | refine .yes rfl ?_ | refine .no rfl ?_ | refine .exit rfl ?_)
  refine RunsE.region ?_
  refine OpsE.ev (Ev.assign rfl) rfl ?_
  refine OpsE.nil ?_
  have htl : (l.takeWhile p).length ≤ l.length := (List.takeWhile_prefix p).length_le
  repeat refine RunsE.seq ?_
  refine RunsE.join (fun i : Nat => [(0, .slice av l.length cv), (3, .pointer (some ⟨b3, 0, none⟩)), (5, .int .i64 (i : Int))])
    (fun i w => i = (l.takeWhile p).length ∧ SL w ((b3, .cells (gL x).toArray 64 (0, 0)) :: X)) (fun next => ?_) ?_
  · refine RunsE.block ?_
    refine RunsE.loop (fun i : Nat => [(0, .slice av l.length cv), (3, .pointer (some ⟨b3, 0, none⟩)), (5, .int .i64 (i : Int))])
      (fun i w => i ≤ (l.takeWhile p).length ∧ SL w ((b3, .cells (gL x).toArray 64 (0, 0)) :: X)) (fun i => l.length - i) 0 ⟨rfl, rfl, rfl, trivial⟩ ⟨by omega, H⟩ ?_
    clear H
    rintro i w ⟨hi, H⟩ nextL
    by_cases h1 : i = l.length
    ·
      repeat (first | refine .seq ?_ | refine .skip ?_ | refine .block ?_ | refine .inBlock ?_ | refine .yes rfl ?_ | refine .no rfl ?_ | refine .exit rfl ?_)
      refine RunsE.drawS H [] (by kernel_rfl) ?_; (try clear H); intro w H
      refine OpsD.take 0 rfl (by kernel_rfl) H (fun w H => Ev.move rfl) rfl ?_
      refine OpsD.take 1 rfl (by kernel_rfl) H (fun w H => Ev.move rfl) rfl ?_
      refine OpsD.take 2 rfl (by kernel_rfl) H (fun w H => Ev.lenSl (d := 64) rfl rfl (by kernel_rfl)) rfl ?_
      refine OpsD.take 3 rfl (by kernel_rfl) H (fun w H => Ev.lss (r := false) rfl rfl (decide_eq_false (by omega))) rfl ?_
      refine OpsD.take 4 rfl (by kernel_rfl) H (fun w H => Ev.move rfl) rfl ?_
      first | refine OpsD.takeYes 5 rfl (by kernel_rfl) rfl rfl H (fun w H => Ev.move rfl) rfl ?_ | refine OpsD.takeNo 5 rfl (by kernel_rfl) rfl rfl H rfl ?_ | refine OpsD.takeOff 5 rfl (by kernel_rfl) rfl rfl H rfl ?_
      first | refine OpsD.takeYes 6 rfl (by kernel_rfl) rfl rfl H (fun w H => Ev.move rfl) rfl ?_ | refine OpsD.takeNo 6 rfl (by kernel_rfl) rfl rfl H rfl ?_ | refine OpsD.takeOff 6 rfl (by kernel_rfl) rfl rfl H rfl ?_
      first | refine OpsD.takeYes 7 rfl (by kernel_rfl) rfl rfl H (fun w H => Ev.iaSl (n := 64) (sz := 3) rfl rfl rfl (by kernel_rfl) (by omega)) rfl ?_ | refine OpsD.takeNo 7 rfl (by kernel_rfl) rfl rfl H rfl ?_ | refine OpsD.takeOff 7 rfl (by kernel_rfl) rfl rfl H rfl ?_
      first | refine OpsD.takeYes 8 rfl (by kernel_rfl) rfl rfl H (fun w H => Ev.fieldAddr (o := 0) rfl (by kernel_rfl)) rfl ?_ | refine OpsD.takeNo 8 rfl (by kernel_rfl) rfl rfl H rfl ?_ | refine OpsD.takeOff 8 rfl (by kernel_rfl) rfl rfl H rfl ?_
      first | refine OpsD.takeYes 9 rfl (by kernel_rfl) rfl rfl H (fun w H => Ev.load H rfl (by kernel_rfl) (by first | exact Rd.mk m0 rfl | exact Rd.mk m1 rfl | exact Rd.mk m2 rfl | exact Rd.mk m3 rfl | assumption)) rfl ?_ | refine OpsD.takeNo 9 rfl (by kernel_rfl) rfl rfl H rfl ?_ | refine OpsD.takeOff 9 rfl (by kernel_rfl) rfl rfl H rfl ?_
      first | refine OpsD.takeYes 10 rfl (by kernel_rfl) rfl rfl H (fun w H => Ev.fieldAddr (o := 0) rfl (by kernel_rfl)) rfl ?_ | refine OpsD.takeNo 10 rfl (by kernel_rfl) rfl rfl H rfl ?_ | refine OpsD.takeOff 10 rfl (by kernel_rfl) rfl rfl H rfl ?_
      first | refine OpsD.takeYes 11 rfl (by kernel_rfl) rfl rfl H (fun w H => Ev.load H rfl (by kernel_rfl) (by first | exact Rd.mk m0 rfl | exact Rd.mk m1 rfl | exact Rd.mk m2 rfl | exact Rd.mk m3 rfl | assumption)) rfl ?_ | refine OpsD.takeNo 11 rfl (by kernel_rfl) rfl rfl H rfl ?_ | refine OpsD.takeOff 11 rfl (by kernel_rfl) rfl rfl H rfl ?_
      first | refine OpsD.takeYes 12 rfl (by kernel_rfl) rfl rfl H (fun w H => (?op_binOp)) rfl ?_ | refine OpsD.takeNo 12 rfl (by kernel_rfl) rfl rfl H rfl ?_ | refine OpsD.takeOff 12 rfl (by kernel_rfl) rfl rfl H rfl ?_
      refine OpsD.take 13 rfl (by kernel_rfl) H (fun w H => (by first | exact Ev.pickT rfl rfl | exact Ev.pickF rfl rfl)) rfl ?_
      refine OpsD.done (by kernel_rfl) ?_
      repeat refine RunsE.seq ?_
      refine RunsE.no rfl ?_
      refine RunsE.exit rfl ?_
      exact next i _ _ ⟨by omega, H⟩ ⟨rfl, rfl, rfl, trivial⟩
    · have hil : i < l.length := by omega
      obtain ⟨y, hy⟩ : ∃ y, l[i]? = some y := ⟨l[i], List.getElem?_eq_getElem hil⟩
      obtain ⟨bl, ol, rfl, hat⟩ := hv.elS gL_len hy
      have hnx := takeWhile_next hi hy
      repeat (first | refine .seq ?_ | refine .skip ?_ | refine .block ?_ | refine .inBlock ?_ | refine .yes rfl ?_ | refine .no rfl ?_ | refine .exit rfl ?_)
      refine RunsE.drawS H [] (by kernel_rfl) ?_; (try clear H); intro w H
      refine OpsD.take 0 rfl (by kernel_rfl) H (fun w H => Ev.move rfl) rfl ?_
      refine OpsD.take 1 rfl (by kernel_rfl) H (fun w H => Ev.move rfl) rfl ?_
      refine OpsD.take 2 rfl (by kernel_rfl) H (fun w H => Ev.lenSl (d := 64) rfl rfl (by kernel_rfl)) rfl ?_
      refine OpsD.take 3 rfl (by kernel_rfl) H (fun w H => Ev.lss (r := true) rfl rfl (decide_eq_true (by omega))) rfl ?_
      refine OpsD.take 4 rfl (by kernel_rfl) H (fun w H => Ev.move rfl) rfl ?_
      first | refine OpsD.takeYes 5 rfl (by kernel_rfl) rfl rfl H (fun w H => Ev.move rfl) rfl ?_ | refine OpsD.takeNo 5 rfl (by kernel_rfl) rfl rfl H rfl ?_ | refine OpsD.takeOff 5 rfl (by kernel_rfl) rfl rfl H rfl ?_
      first | refine OpsD.takeYes 6 rfl (by kernel_rfl) rfl rfl H (fun w H => Ev.move rfl) rfl ?_ | refine OpsD.takeNo 6 rfl (by kernel_rfl) rfl rfl H rfl ?_ | refine OpsD.takeOff 6 rfl (by kernel_rfl) rfl rfl H rfl ?_
      first | refine OpsD.takeYes 7 rfl (by kernel_rfl) rfl rfl H (fun w H => Ev.iaSl (n := 64) (sz := 3) (m := i) (o := ol + i * 3) rfl rfl rfl (by kernel_rfl) hil) rfl ?_ | refine OpsD.takeNo 7 rfl (by kernel_rfl) rfl rfl H rfl ?_ | refine OpsD.takeOff 7 rfl (by kernel_rfl) rfl rfl H rfl ?_
      first | refine OpsD.takeYes 8 rfl (by kernel_rfl) rfl rfl H (fun w H => Ev.fieldAddr (o := 0) (o' := ol + i * 3 + 0) rfl (by kernel_rfl) (by omega)) rfl ?_ | refine OpsD.takeNo 8 rfl (by kernel_rfl) rfl rfl H rfl ?_ | refine OpsD.takeOff 8 rfl (by kernel_rfl) rfl rfl H rfl ?_
      first | refine OpsD.takeYes 9 rfl (by kernel_rfl) rfl rfl H (fun w H => Ev.load H rfl (by kernel_rfl) (hat 0 _ rfl).tail) rfl ?_ | refine OpsD.takeNo 9 rfl (by kernel_rfl) rfl rfl H rfl ?_ | refine OpsD.takeOff 9 rfl (by kernel_rfl) rfl rfl H rfl ?_
      first | refine OpsD.takeYes 10 rfl (by kernel_rfl) rfl rfl H (fun w H => Ev.fieldAddr (o := 0) rfl (by kernel_rfl)) rfl ?_ | refine OpsD.takeNo 10 rfl (by kernel_rfl) rfl rfl H rfl ?_ | refine OpsD.takeOff 10 rfl (by kernel_rfl) rfl rfl H rfl ?_
      first | refine OpsD.takeYes 11 rfl (by kernel_rfl) rfl rfl H (fun w H => Ev.load H rfl (by kernel_rfl) (Rd.mk m0 rfl)) rfl ?_ | refine OpsD.takeNo 11 rfl (by kernel_rfl) rfl rfl H rfl ?_ | refine OpsD.takeOff 11 rfl (by kernel_rfl) rfl rfl H rfl ?_
      first | refine OpsD.takeYes 12 rfl (by kernel_rfl) rfl rfl H (fun w H => Ev.strLss (cs := y.key) (bs := x.key) rfl rfl rfl) rfl ?_ | refine OpsD.takeNo 12 rfl (by kernel_rfl) rfl rfl H rfl ?_ | refine OpsD.takeOff 12 rfl (by kernel_rfl) rfl rfl H rfl ?_
      refine OpsD.take 13 rfl (by kernel_rfl) H (fun w H => (by first | exact Ev.pickT rfl rfl | exact Ev.pickF rfl rfl)) rfl ?_
      refine OpsD.done (by kernel_rfl) ?_
      by_cases h2 : y.key < x.key
      · clear next
        repeat refine RunsE.seq ?_
        refine RunsE.yes (by rw [decide_eq_true h2]; rfl) ?_
        refine RunsE.skip ?_
        refine RunsE.block ?_
        repeat (first | refine .seq ?_ | refine .skip ?_ | refine .block ?_ | refine .inBlock ?_ | refine .yes rfl ?_ | refine .no rfl ?_ | refine .exit rfl ?_)
        refine RunsE.region ?_
        refine OpsE.ev (Ev.move rfl) rfl ?_
        refine OpsE.ev (Ev.add rfl rfl) rfl ?_
        refine OpsE.ev (Ev.assign rfl) rfl ?_
        refine OpsE.nil ?_
        refine RunsE.inBlock ?_
        exact nextL (i + 1) _ _ (by omega) ⟨hnx.1 (by rw [hp]; exact decide_eq_true h2), H⟩ ⟨rfl, rfl, rfl, trivial⟩
      · repeat refine RunsE.seq ?_
        refine RunsE.no (by rw [decide_eq_false h2]; rfl) ?_
        refine RunsE.exit rfl ?_
        exact next i _ _ ⟨(hnx.2 (by rw [hp]; exact decide_eq_false h2)).symm, H⟩ ⟨rfl, rfl, rfl, trivial⟩
  clear H
  rintro i w ⟨hi, H⟩
  obtain ⟨X0, hX0⟩ : ∃ X0, X0 = (b3, .cells (gL x).toArray 64 (0, 0)) :: X := ⟨_, rfl⟩
  have hX : ∀ q ∈ X, q ∈ X0 := fun q hq => by rw [hX0]; exact .tail _ hq
  have hb3 : (b3, Obj.cells (gL x).toArray 64 (0, 0)) ∈ X0 := by rw [hX0]; exact .head _
  rw [← hX0] at H
  have hil : i ≤ l.length := by omega
  have htw := take_tw (p := p) l
  rw [← hi] at htw
  have hts := (RdS.takeS (k := i) hv gL_len hil).sub hX
  have hds := (RdS.dropS (k := i) hv gL_len hil).sub hX
  have htl : (l.take i).length = i := by rw [List.length_take]; omega
  have hdl : (l.drop i).length = l.length - i := List.length_drop
  obtain ⟨l', hl'⟩ : ∃ l', l' = l.take i ++ [x] ++ l.drop i := ⟨_, rfl⟩
  have hins : insK Lf.key l x = l' := by
    rw [hl', htw.1, htw.2, insK, hp]; simp
  rw [hins]
  clear hi
  repeat (first | refine .seq ?_ | refine .skip ?_ | refine .block ?_ | refine .inBlock ?_ | refine .yes rfl ?_ | refine .no rfl ?_ | refine .exit rfl ?_)
  refine RunsE.region ?_
  refine OpsE.ev (Ev.assign rfl) rfl ?_
  refine OpsE.nil ?_
  repeat refine RunsE.seq ?_
  refine RunsE.join (fun v : Value => [(4, v)])
    (fun v w => ∃ B, Slc gL 3 64 v l' B ∧ SL w (B ++ X0)) (fun next => ?_) ?_
  ·
    repeat (first | refine .seq ?_ | refine .skip ?_ | refine .block ?_ | refine .inBlock ?_ | refine .yes rfl ?_ | refine .no rfl ?_ | refine .exit rfl ?_)
    refine RunsE.drawS H [12] (by kernel_rfl) ?_; (try clear H); intro w H
    refine OpsD.take 0 rfl (by kernel_rfl) H (fun w H => Ev.move rfl) rfl ?_
    refine OpsD.take 1 rfl (by kernel_rfl) H (fun w H => Ev.move rfl) rfl ?_
    refine OpsD.take 2 rfl (by kernel_rfl) H (fun w H => Ev.move rfl) rfl ?_
    refine OpsD.take 3 rfl (by kernel_rfl) H (fun w H => Ev.slSl (el := 64) (sz := 3) (l := 0) (h := i) rfl (by kernel_rfl) rfl ⟨_, rfl⟩ (by omega) (by omega)) rfl ?_
    refine OpsD.take 5 rfl (by kernel_rfl) H (fun w H => Ev.loadBlk (n := 3) (vs := gL x) H rfl (by kernel_rfl) rfl (by first | exact List.mem_append_right _ hb3 | exact hb3)) rfl ?_
    refine OpsD.take 8 rfl (by kernel_rfl) H (fun w H => Ev.move rfl) rfl ?_
    refine OpsD.take 9 rfl (by kernel_rfl) H (fun w H => Ev.move rfl) rfl ?_
    refine OpsD.take 10 rfl (by kernel_rfl) H (fun w H => Ev.slSl (el := 64) (sz := 3) (l := i) (h := l.length) rfl (by kernel_rfl) ⟨_, rfl⟩ rfl (by omega) (by omega)) rfl ?_
    refine OpsD.two 4 6 (by kernel_rfl) (StepD.ex rfl (Ex.append (T := 64) (g := gL) (sz := 3) (by_ := 40) (zv := .agg #[.string .empty, .string .empty, .int .i64 0]) (xs := []) (ys := l.take i) (B := []) H rfl rfl .nil (RdS.src H (hts.sub (by first | exact fun p hp => hp | exact fun p hp => .tail _ hp))) gL_len gL_one (by kernel_rfl) (by kernel_rfl) (by kernel_rfl) (by kernel_rfl) rfl (by simp only [List.length_nil]; omega) (by simp only [List.length_nil]; omega)) rfl ?_) (StepD.ex rfl (Ex.buildSlP (len := 1) (sz := 3) (T := 64) (zv := .agg #[.string .empty, .string .empty, .int .i64 0]) (cs := gL x) H rfl (by kernel_rfl) (by kernel_rfl) rfl (by decide) (by decide)) rfl ?_)
    · (try clear H); rintro v1 w ⟨B1, hs1, H⟩; rw [List.nil_append] at hs1; refine ⟨(by first | exact H | exact H.drop | exact H.drop.drop | exact H.dropL | exact H.drop.dropL | exact H.dropL.drop | exact H.dropL.dropL | exact H.dropMid), ?_⟩
      refine OpsD.one 6 (by kernel_rfl) (StepD.ex rfl (Ex.buildSlP (len := 1) (sz := 3) (T := 64) (zv := .agg #[.string .empty, .string .empty, .int .i64 0]) (cs := gL x) H rfl (by kernel_rfl) (by kernel_rfl) rfl (by decide) (by decide)) rfl ?_); (try clear H); rintro _ w ⟨b29, rfl, H⟩; refine ⟨(by first | exact H | exact H.drop | exact H.drop.drop | exact H.dropL | exact H.drop.dropL | exact H.dropL.drop | exact H.dropL.dropL | exact H.dropMid), ?_⟩
      refine OpsD.one 7 (by kernel_rfl) (StepD.ex rfl (Ex.append (T := 64) (g := gL) (sz := 3) (by_ := 40) (zv := .agg #[.string .empty, .string .empty, .int .i64 0]) (xs := l.take i) (ys := [x]) (B := B1) (L := X0) (by first | exact H.drop | exact H.dropMid) rfl rfl hs1 (by first | exact Src.row0 H m0 rfl | exact Src.row0 H (List.mem_append_right _ m0) rfl) gL_len gL_one (by kernel_rfl) (by kernel_rfl) (by kernel_rfl) (by kernel_rfl) rfl (by simp only [List.length_singleton]; omega) (by simp only [List.length_singleton]; omega)) rfl ?_); (try clear H); rintro v2 w ⟨B2, hs2, H⟩; refine ⟨(by first | exact H | exact H.drop | exact H.drop.drop | exact H.dropL | exact H.drop.dropL | exact H.dropL.drop | exact H.dropL.dropL | exact H.dropMid), ?_⟩
      refine OpsD.one 11 (by kernel_rfl) (StepD.ex rfl (Ex.append (T := 64) (g := gL) (sz := 3) (by_ := 40) (zv := .agg #[.string .empty, .string .empty, .int .i64 0]) (xs := l.take i ++ [x]) (ys := l.drop i) (B := B2) (L := X0) H rfl rfl hs2 (RdS.src H (hds.sub fun p hp => List.mem_append_right _ hp)) gL_len gL_one (by kernel_rfl) (by kernel_rfl) (by kernel_rfl) (by kernel_rfl) rfl (by simp only [List.length_append, List.length_singleton]; omega) (by simp only [List.length_append, List.length_singleton]; omega)) rfl ?_); (try clear H); rintro v3 w ⟨B3, hs3, H⟩; rw [← hl'] at hs3; refine ⟨(by first | exact H | exact H.drop | exact H.drop.drop | exact H.dropL | exact H.drop.dropL | exact H.dropL.drop | exact H.dropL.dropL | exact H.dropMid), ?_⟩
      refine OpsD.one 12 (by kernel_rfl) (StepD.exT rfl rfl (Ev.ex (Ev.assign rfl)) rfl ?_); rintro _ _ ⟨rfl, rfl⟩
      refine OpsD.done (by kernel_rfl) ?_
      exact next v3 _ _ ⟨B3, hs3, H⟩ ⟨rfl, trivial⟩
    · (try clear H); rintro _ w ⟨b29, rfl, H⟩; refine ⟨(by first | exact H | exact H.drop | exact H.drop.drop | exact H.dropL | exact H.drop.dropL | exact H.dropL.drop | exact H.dropL.dropL | exact H.dropMid), ?_⟩
      refine OpsD.one 4 (by kernel_rfl) (StepD.ex rfl (Ex.append (T := 64) (g := gL) (sz := 3) (by_ := 40) (zv := .agg #[.string .empty, .string .empty, .int .i64 0]) (xs := []) (ys := l.take i) (B := []) H rfl rfl .nil (RdS.src H (hts.sub (by first | exact fun p hp => hp | exact fun p hp => .tail _ hp))) gL_len gL_one (by kernel_rfl) (by kernel_rfl) (by kernel_rfl) (by kernel_rfl) rfl (by simp only [List.length_nil]; omega) (by simp only [List.length_nil]; omega)) rfl ?_); (try clear H); rintro v1 w ⟨B1, hs1, H⟩; rw [List.nil_append] at hs1; refine ⟨(by first | exact H | exact H.drop | exact H.drop.drop | exact H.dropL | exact H.drop.dropL | exact H.dropL.drop | exact H.dropL.dropL | exact H.dropMid), ?_⟩
      refine OpsD.one 7 (by kernel_rfl) (StepD.ex rfl (Ex.append (T := 64) (g := gL) (sz := 3) (by_ := 40) (zv := .agg #[.string .empty, .string .empty, .int .i64 0]) (xs := l.take i) (ys := [x]) (B := B1) (L := X0) (by first | exact H.drop | exact H.dropMid) rfl rfl hs1 (by first | exact Src.row0 H m0 rfl | exact Src.row0 H (List.mem_append_right _ m0) rfl) gL_len gL_one (by kernel_rfl) (by kernel_rfl) (by kernel_rfl) (by kernel_rfl) rfl (by simp only [List.length_singleton]; omega) (by simp only [List.length_singleton]; omega)) rfl ?_); (try clear H); rintro v2 w ⟨B2, hs2, H⟩; refine ⟨(by first | exact H | exact H.drop | exact H.drop.drop | exact H.dropL | exact H.drop.dropL | exact H.dropL.drop | exact H.dropL.dropL | exact H.dropMid), ?_⟩
      refine OpsD.one 11 (by kernel_rfl) (StepD.ex rfl (Ex.append (T := 64) (g := gL) (sz := 3) (by_ := 40) (zv := .agg #[.string .empty, .string .empty, .int .i64 0]) (xs := l.take i ++ [x]) (ys := l.drop i) (B := B2) (L := X0) H rfl rfl hs2 (RdS.src H (hds.sub fun p hp => List.mem_append_right _ hp)) gL_len gL_one (by kernel_rfl) (by kernel_rfl) (by kernel_rfl) (by kernel_rfl) rfl (by simp only [List.length_append, List.length_singleton]; omega) (by simp only [List.length_append, List.length_singleton]; omega)) rfl ?_); (try clear H); rintro v3 w ⟨B3, hs3, H⟩; rw [← hl'] at hs3; refine ⟨(by first | exact H | exact H.drop | exact H.drop.drop | exact H.dropL | exact H.drop.dropL | exact H.dropL.drop | exact H.dropL.dropL | exact H.dropMid), ?_⟩
      refine OpsD.one 12 (by kernel_rfl) (StepD.exT rfl rfl (Ev.ex (Ev.assign rfl)) rfl ?_); rintro _ _ ⟨rfl, rfl⟩
      refine OpsD.done (by kernel_rfl) ?_
      exact next v3 _ _ ⟨B3, hs3, H⟩ ⟨rfl, trivial⟩
  clear H
  rintro v w ⟨B, hs, H⟩
  rw [hX0] at H
  exact RunsE.ret1 Tryz.func46 rfl rfl ⟨B, hs, H.dropMid⟩

set_option maxHeartbeats 1000000 in
theorem rroot_spec [Strm] (l : List Lf) (count : Nat) (v : Value) (hl : l.length < 256) (hc1 : 1 ≤ count) (hc : count ≤ 256) (hn : (l.map Lf.place).Nodup) (w : World) (X : List (Nat × Obj)) (hv : LsAt X v l) (H : SL w X) :
    Does Tryz.prog 24 #[v, .int .i64 (count : Int)] w fun r w' => ∃ B, Slc gB 1 5 r (rootN l (count - 1)) B ∧ SL w' (B ++ X) := by
  obtain ⟨av, cv, rfl, hcv⟩ := hv.len
  have hel := encU_len l.length
  refine Does.intro (args := [_, _]) (e := [(0, _), (1, _)]) Tryz.func24 rfl Tryz.ntmps24 rfl rfl ?_
  repeat (first | refine .seq ?_ | refine .skip ?_ | refine .block ?_ | refine .inBlock ?_ | refine .yes rfl ?_ | refine .no rfl ?_ | refine .exit rfl ?_)
  repeat (first | refine .seq ?_ | refine .skip ?_ | refine .block ?_ | refine .inBlock ?_ | refine .yes rfl ?_ | refine .no rfl ?_ | refine .exit rfl ?_)
  refine RunsE.region ?_
  refine OpsE.ev (Ev.assign rfl) rfl ?_
  refine OpsE.nil ?_
  repeat (first | refine .seq ?_ | refine .skip ?_ | refine .block ?_ | refine .inBlock ?_ | refine .yes rfl ?_ | refine .no rfl ?_ | refine .exit rfl ?_)
  refine RunsE.region ?_
  refine OpsE.ev (Ev.move rfl) rfl ?_
  refine OpsE.ev (Ev.lenSl (d := 64) rfl rfl (by kernel_rfl)) rfl ?_
  refine OpsE.ev (Ev.conv (c := (l.length : Int)) (k' := .u64) rfl (by kernel_rfl) (by kernel_rfl) (qu64 (by omega) (by omega))) rfl ?_
  refine OpsE.ex (Ex.call rfl Tryz.call61 (refuint_spec l.length hl [] _ (by simp) w _ .nil H)) rfl ?_; (try clear H); rintro vb w ⟨B, hs, H⟩; rw [List.nil_append] at hs
  refine OpsE.ev (Ev.assign rfl) rfl ?_
  refine OpsE.nil ?_
  repeat (first | refine .seq ?_ | refine .skip ?_ | refine .block ?_ | refine .inBlock ?_ | refine .yes rfl ?_ | refine .no rfl ?_ | refine .exit rfl ?_)
  refine RunsE.region ?_
  refine OpsE.ev (Ev.assign rfl) rfl ?_
  refine OpsE.nil ?_
  repeat refine RunsE.seq ?_
  refine RunsE.join (fun v : Value => [(5, v)])
    (fun v w => ∃ B, Slc gB 1 5 v (rootN l (count - 1)) B ∧ SL w (B ++ X)) (fun next => ?_) ?_
  · refine RunsE.block ?_
    refine RunsE.loop (fun s : Nat × Value => [(0, .slice av l.length cv), (1, .int .i64 (count : Int)), (5, s.2), (6, .int .i64 ((s.1 + 1 : Nat) : Int))])
      (fun s w => s.1 ≤ count - 1 ∧ ∃ B, Slc gB 1 5 s.2 (rootN l s.1) B ∧ SL w (B ++ X)) (fun s => count - s.1) (0, vb) ⟨rfl, rfl, rfl, rfl, trivial⟩ ⟨by simp only; omega, B, by simp only [rootN, List.range'_zero, List.flatMap_nil, List.append_nil]; exact hs, H⟩ ?_
    clear H hs
    rintro ⟨n, vb⟩ w ⟨hnc, B, hs, H⟩ nextL
    simp only at hnc hs
    by_cases h1 : n = count - 1
    ·
      repeat (first | refine .seq ?_ | refine .skip ?_ | refine .block ?_ | refine .inBlock ?_ | refine .yes rfl ?_ | refine .no rfl ?_ | refine .exit rfl ?_)
      refine RunsE.region ?_
      refine OpsE.ev (Ev.move rfl) rfl ?_
      refine OpsE.ev (Ev.move rfl) rfl ?_
      refine OpsE.ev (Ev.lss (r := false) rfl rfl (decide_eq_false (by simp only; omega))) rfl ?_
      refine OpsE.nil ?_
      repeat refine RunsE.seq ?_
      refine RunsE.no rfl ?_
      refine RunsE.exit rfl ?_
      rw [h1] at hs
      exact next _ _ _ ⟨B, hs, H⟩ ⟨rfl, trivial⟩
    · clear next
      have hen := encU_len (n + 1)
      have hrl := rootN_len hn n
      repeat (first | refine .seq ?_ | refine .skip ?_ | refine .block ?_ | refine .inBlock ?_ | refine .yes rfl ?_ | refine .no rfl ?_ | refine .exit rfl ?_)
      refine RunsE.region ?_
      refine OpsE.ev (Ev.move rfl) rfl ?_
      refine OpsE.ev (Ev.move rfl) rfl ?_
      refine OpsE.ev (Ev.lss (r := true) rfl rfl (decide_eq_true (by simp only; omega))) rfl ?_
      refine OpsE.nil ?_
      repeat (first | refine .seq ?_ | refine .skip ?_ | refine .block ?_ | refine .inBlock ?_ | refine .yes rfl ?_ | refine .no rfl ?_ | refine .exit rfl ?_)
      repeat (first | refine .seq ?_ | refine .skip ?_ | refine .block ?_ | refine .inBlock ?_ | refine .yes rfl ?_ | refine .no rfl ?_ | refine .exit rfl ?_)
      refine RunsE.region ?_
      refine OpsE.ev (Ev.assign rfl) rfl ?_
      refine OpsE.nil ?_
      repeat refine RunsE.seq ?_
      refine RunsE.join (fun v : Value => [(0, .slice av l.length cv), (1, .int .i64 (count : Int)), (5, v), (6, .int .i64 ((n + 1 : Nat) : Int))])
        (fun v w => ∃ B, Slc gB 1 5 v (rootN l (n + 1)) B ∧ SL w (B ++ X)) (fun next => ?_) ?_
      · refine RunsE.block ?_
        refine RunsE.loop (fun s : Nat × Value => [(0, .slice av l.length cv), (1, .int .i64 (count : Int)), (5, s.2), (6, .int .i64 ((n + 1 : Nat) : Int)), (7, .int .i64 (s.1 : Int))])
          (fun s w => s.1 ≤ l.length ∧ ∃ B, Slc gB 1 5 s.2 (rootN l n ++ ((l.take s.1).filter fun y => decide (y.place = n + 1)).flatMap fun _ => encU (n + 1)) B ∧ SL w (B ++ X)) (fun s => l.length - s.1) (0, vb) ⟨rfl, rfl, rfl, rfl, rfl, trivial⟩ ⟨by simp only; omega, B, by simpa using hs, H⟩ ?_
        clear H hs nextL
        rintro ⟨i, vb⟩ w ⟨hi, B, hs, H⟩ nextL
        simp only at hi hs
        by_cases h2 : i = l.length
        ·
          repeat (first | refine .seq ?_ | refine .skip ?_ | refine .block ?_ | refine .inBlock ?_ | refine .yes rfl ?_ | refine .no rfl ?_ | refine .exit rfl ?_)
          refine RunsE.region ?_
          refine OpsE.ev (Ev.move rfl) rfl ?_
          refine OpsE.ev (Ev.move rfl) rfl ?_
          refine OpsE.ev (Ev.lenSl (d := 64) rfl rfl (by kernel_rfl)) rfl ?_
          refine OpsE.ev (Ev.lss (r := false) rfl rfl (decide_eq_false (by simp only; omega))) rfl ?_
          refine OpsE.nil ?_
          repeat refine RunsE.seq ?_
          refine RunsE.no rfl ?_
          refine RunsE.exit rfl ?_
          rw [h2, List.take_length] at hs
          have e1 : rootN l (n + 1) = rootN l n ++ ((l.filter fun y => decide (y.place = n + 1)).flatMap fun _ => encU (n + 1)) := by
            unfold rootN
            rw [List.range'_concat, List.flatMap_append, List.append_assoc]
            simp [Nat.add_comm 1 n]
          exact next _ _ _ ⟨B, by rw [e1]; exact hs, H⟩ ⟨rfl, rfl, rfl, rfl, trivial⟩
        · clear next
          have hil : i < l.length := by omega
          obtain ⟨y, hy⟩ : ∃ y, l[i]? = some y := ⟨l[i], List.getElem?_eq_getElem hil⟩
          obtain ⟨bl, ol, rfl, hat⟩ := hv.elS gL_len hy
          have ht : l.take (i + 1) = l.take i ++ [y] := by rw [List.take_add_one, hy]; rfl
          repeat (first | refine .seq ?_ | refine .skip ?_ | refine .block ?_ | refine .inBlock ?_ | refine .yes rfl ?_ | refine .no rfl ?_ | refine .exit rfl ?_)
          refine RunsE.region ?_
          refine OpsE.ev (Ev.move rfl) rfl ?_
          refine OpsE.ev (Ev.move rfl) rfl ?_
          refine OpsE.ev (Ev.lenSl (d := 64) rfl rfl (by kernel_rfl)) rfl ?_
          refine OpsE.ev (Ev.lss (r := true) rfl rfl (decide_eq_true (by simp only; omega))) rfl ?_
          refine OpsE.nil ?_
          repeat (first | refine .seq ?_ | refine .skip ?_ | refine .block ?_ | refine .inBlock ?_ | refine .yes rfl ?_ | refine .no rfl ?_ | refine .exit rfl ?_)
          repeat (first | refine .seq ?_ | refine .skip ?_ | refine .block ?_ | refine .inBlock ?_ | refine .yes rfl ?_ | refine .no rfl ?_ | refine .exit rfl ?_)
          refine RunsE.region ?_
          refine OpsE.ev (Ev.move rfl) rfl ?_
          refine OpsE.ev (Ev.move rfl) rfl ?_
          refine OpsE.ev (Ev.iaSl (n := 64) (sz := 3) (m := i) (o := ol + i * 3) rfl rfl rfl (by kernel_rfl) hil) rfl ?_
          refine OpsE.ev (Ev.fieldAddr (o := 2) (o' := ol + i * 3 + 2) rfl (by kernel_rfl) (by omega)) rfl ?_
          refine OpsE.ev (Ev.load H rfl (by kernel_rfl) (hat 2 _ rfl).right) rfl ?_
          refine OpsE.ev (Ev.move rfl) rfl ?_
          refine OpsE.ev (Ev.eql (r := decide (y.place = n + 1)) rfl rfl (by rw [Bool.eq_iff_iff, beq_iff_eq, decide_eq_true_iff]; omega)) rfl ?_
          refine OpsE.nil ?_
          by_cases h3 : y.place = n + 1
          · repeat refine RunsE.seq ?_
            refine RunsE.yes (by rw [decide_eq_true h3]; rfl) ?_
            have hfl : ((l.take i).filter fun y => decide (y.place = n + 1)).length ≤ l.length := Nat.le_trans (List.length_filter_le _ _) (by rw [List.length_take]; omega)
            have hfm : (((l.take i).filter fun y => decide (y.place = n + 1)).flatMap fun _ => encU (n + 1)).length ≤ 9 * l.length := by
              rw [flat_const]
              exact Nat.le_trans (Nat.mul_le_mul hfl (Nat.le_trans hen.2 (by decide : 2 ≤ 9))) (by omega)
            have hrl2 : (rootN l n).length ≤ 9 + 9 * n := by unfold rootN; rw [List.length_append]; omega
            repeat (first | refine .seq ?_ | refine .skip ?_ | refine .block ?_ | refine .inBlock ?_ | refine .yes rfl ?_ | refine .no rfl ?_ | refine .exit rfl ?_)
            refine RunsE.region ?_
            refine OpsE.ev (Ev.move rfl) rfl ?_
            refine OpsE.ev (Ev.move rfl) rfl ?_
            refine OpsE.ev (Ev.conv (c := ((n + 1 : Nat) : Int)) (k' := .u64) rfl (by kernel_rfl) (by kernel_rfl) (qu64 (by omega) (by omega))) rfl ?_
            refine OpsE.ex (Ex.call rfl Tryz.call61 (refuint_spec (n + 1) (by omega) _ vb (by rw [List.length_append]; omega) w _ hs.inp H)) rfl ?_; (try clear H); rintro vb' w ⟨B', hs', H⟩
            refine OpsE.ev (Ev.assign rfl) rfl ?_
            refine OpsE.nil ?_
            refine RunsE.inBlock ?_
            repeat (first | refine .seq ?_ | refine .skip ?_ | refine .block ?_ | refine .inBlock ?_ | refine .yes rfl ?_ | refine .no rfl ?_ | refine .exit rfl ?_)
            refine RunsE.region ?_
            refine OpsE.ev (Ev.move rfl) rfl ?_
            refine OpsE.ev (Ev.add rfl rfl) rfl ?_
            refine OpsE.ev (Ev.assign rfl) rfl ?_
            refine OpsE.nil ?_
            refine nextL (i + 1, vb') _ _ (by simp only; omega) ⟨by simp only; omega, B', ?_, H.dropIn⟩ ⟨rfl, rfl, rfl, rfl, rfl, trivial⟩
            simp only
            rw [ht, List.filter_append, List.flatMap_append, ← List.append_assoc]
            have e2 : ([y].filter fun y => decide (y.place = n + 1)) = [y] := by simp [h3]
            rw [e2]
            simpa using hs'
          · repeat refine RunsE.seq ?_
            refine RunsE.no (by rw [decide_eq_false h3]; rfl) ?_
            refine RunsE.skip ?_
            refine RunsE.inBlock ?_
            repeat (first | refine .seq ?_ | refine .skip ?_ | refine .block ?_ | refine .inBlock ?_ | refine .yes rfl ?_ | refine .no rfl ?_ | refine .exit rfl ?_)
            refine RunsE.region ?_
            refine OpsE.ev (Ev.move rfl) rfl ?_
            refine OpsE.ev (Ev.add rfl rfl) rfl ?_
            refine OpsE.ev (Ev.assign rfl) rfl ?_
            refine OpsE.nil ?_
            refine nextL (i + 1, vb) _ _ (by simp only; omega) ⟨by simp only; omega, B, ?_, H⟩ ⟨rfl, rfl, rfl, rfl, rfl, trivial⟩
            simp only
            rw [ht, List.filter_append]
            have e2 : ([y].filter fun y => decide (y.place = n + 1)) = [] := by simp [h3]
            rw [e2, List.append_nil]
            exact hs
      · clear H hs
        rintro vb w ⟨B, hs, H⟩
        refine RunsE.inBlock ?_
        repeat (first | refine .seq ?_ | refine .skip ?_ | refine .block ?_ | refine .inBlock ?_ | refine .yes rfl ?_ | refine .no rfl ?_ | refine .exit rfl ?_)
        refine RunsE.region ?_
        refine OpsE.ev (Ev.move rfl) rfl ?_
        refine OpsE.ev (Ev.add rfl rfl) rfl ?_
        refine OpsE.ev (Ev.assign rfl) rfl ?_
        refine OpsE.nil ?_
        exact nextL (n + 1, vb) _ _ (by simp only; omega) ⟨by simp only; omega, B, hs, H⟩ ⟨rfl, rfl, rfl, rfl, trivial⟩
  clear H hs
  rintro v w ⟨B, hs, H⟩
  repeat (first | refine .seq ?_ | refine .skip ?_ | refine .block ?_ | refine .inBlock ?_ | refine .yes rfl ?_ | refine .no rfl ?_ | refine .exit rfl ?_)
  refine RunsE.region ?_
  refine OpsE.ev (Ev.move rfl) rfl ?_
  refine OpsE.ev (Ev.assign rfl) rfl ?_
  refine OpsE.nil ?_
  repeat (first | refine .seq ?_ | refine .skip ?_ | refine .block ?_ | refine .inBlock ?_ | refine .yes rfl ?_ | refine .no rfl ?_ | refine .exit rfl ?_)
  exact RunsE.ret1 Tryz.func24 rfl rfl ⟨B, hs, H⟩

theorem give_spec [Strm] (cs : List Ch) (v : Value) (hl : cs.length ≤ 100000) (w : World) (X : List (Nat × Obj)) (hv : ElsA 3 (ChAt X) v cs) (H : SL w X) :
    Does Tryz.prog 17 #[v] w fun r w' => ∃ B, Slc gC 3 53 r cs B ∧ SL w' (B ++ X) := by
  obtain ⟨av, cv, rfl, hcv⟩ := hv.len
  refine Does.intro (args := [_]) (e := [(0, _)]) Tryz.func17 rfl Tryz.ntmps17 rfl rfl ?_
  repeat (first | refine .seq ?_ | refine .skip ?_ | refine .block ?_ | refine .inBlock ?_ | refine .yes rfl ?_ | refine .no rfl ?_ | refine .exit rfl ?_)
  repeat (first | refine .seq ?_ | refine .skip ?_ | refine .block ?_ | refine .inBlock ?_ | refine .yes rfl ?_ | refine .no rfl ?_ | refine .exit rfl ?_)
  refine RunsE.region ?_
  refine OpsE.ev (Ev.assign rfl) rfl ?_
  refine OpsE.nil ?_
  repeat (first | refine .seq ?_ | refine .skip ?_ | refine .block ?_ | refine .inBlock ?_ | refine .yes rfl ?_ | refine .no rfl ?_ | refine .exit rfl ?_)
  refine RunsE.region ?_
  refine OpsE.ev (Ev.assign rfl) rfl ?_
  refine OpsE.nil ?_
  repeat (first | refine .seq ?_ | refine .skip ?_ | refine .block ?_ | refine .inBlock ?_ | refine .yes rfl ?_ | refine .no rfl ?_ | refine .exit rfl ?_)
  refine RunsE.region ?_
  refine OpsE.ev (Ev.assign rfl) rfl ?_
  refine OpsE.nil ?_
  repeat refine RunsE.seq ?_
  refine RunsE.join (fun v : Value => [(3, v)])
    (fun v w => ∃ B, Slc gC 3 53 v cs B ∧ SL w (B ++ X)) (fun next => ?_) ?_
  · refine RunsE.block ?_
    refine RunsE.loop (fun s : Nat × Value => [(0, .slice av cs.length cv), (3, s.2), (4, .int .i64 (s.1 : Int))])
      (fun s w => s.1 ≤ cs.length ∧ ∃ B, Slc gC 3 53 s.2 (cs.take s.1) B ∧ SL w (B ++ X)) (fun s => cs.length - s.1) (0, .slice none 0 0) ⟨rfl, rfl, rfl, trivial⟩ ⟨by omega, [], .nil, H⟩ ?_
    clear H
    rintro ⟨i, v⟩ w ⟨hi, B, hs, H⟩ nextL
    simp only at hi hs
    by_cases h1 : i = cs.length
    ·
      repeat (first | refine .seq ?_ | refine .skip ?_ | refine .block ?_ | refine .inBlock ?_ | refine .yes rfl ?_ | refine .no rfl ?_ | refine .exit rfl ?_)
      refine RunsE.region ?_
      refine OpsE.ev (Ev.move rfl) rfl ?_
      refine OpsE.ev (Ev.move rfl) rfl ?_
      refine OpsE.ev (Ev.lenSl (d := 104) rfl rfl (by kernel_rfl)) rfl ?_
      refine OpsE.ev (Ev.lss (r := false) rfl rfl (decide_eq_false (by simp only; omega))) rfl ?_
      refine OpsE.nil ?_
      repeat refine RunsE.seq ?_
      refine RunsE.no rfl ?_
      refine RunsE.exit rfl ?_
      rw [h1, List.take_length] at hs
      exact next _ _ _ ⟨B, hs, H⟩ ⟨rfl, trivial⟩
    · clear next
      have hil : i < cs.length := by omega
      obtain ⟨y, hy⟩ : ∃ y, cs[i]? = some y := ⟨cs[i], List.getElem?_eq_getElem hil⟩
      obtain ⟨bl, ol, rfl, hat⟩ := hv.at hy
      have ht : cs.take (i + 1) = cs.take i ++ [y] := by rw [List.take_add_one, hy]; rfl
      repeat (first | refine .seq ?_ | refine .skip ?_ | refine .block ?_ | refine .inBlock ?_ | refine .yes rfl ?_ | refine .no rfl ?_ | refine .exit rfl ?_)
      refine RunsE.region ?_
      refine OpsE.ev (Ev.move rfl) rfl ?_
      refine OpsE.ev (Ev.move rfl) rfl ?_
      refine OpsE.ev (Ev.lenSl (d := 104) rfl rfl (by kernel_rfl)) rfl ?_
      refine OpsE.ev (Ev.lss (r := true) rfl rfl (decide_eq_true (by simp only; omega))) rfl ?_
      refine OpsE.nil ?_
      repeat (first | refine .seq ?_ | refine .skip ?_ | refine .block ?_ | refine .inBlock ?_ | refine .yes rfl ?_ | refine .no rfl ?_ | refine .exit rfl ?_)
      repeat (first | refine .seq ?_ | refine .skip ?_ | refine .block ?_ | refine .inBlock ?_ | refine .yes rfl ?_ | refine .no rfl ?_ | refine .exit rfl ?_)
      refine RunsE.region ?_
      refine OpsE.ev (Ev.move rfl) rfl ?_
      refine OpsE.ev (Ev.move rfl) rfl ?_
      refine OpsE.ev (Ev.move rfl) rfl ?_
      refine OpsE.ev (Ev.iaSl (n := 104) (sz := 3) (m := i) (o := ol + i * 3) rfl rfl rfl (by kernel_rfl) hil) rfl ?_
      refine OpsE.ev (Ev.loadAgg (vs := gC y) H rfl (by kernel_rfl) (fun j v hj => by rw [add_none]; exact (hat j v hj).right)) rfl ?_
      refine OpsE.ex (Ex.buildSlP (len := 1) (sz := 3) (T := 53) (zv := .agg #[.string .empty, .string .empty, .bool false]) (cs := gC y) H rfl (by kernel_rfl) (by kernel_rfl) rfl (by decide) (by decide)) rfl ?_; (try clear H); rintro _ w ⟨b25, rfl, H⟩
      refine OpsE.ex (Ex.append (T := 53) (g := gC) (sz := 3) (by_ := 40) (zv := .agg #[.string .empty, .string .empty, .bool false]) (xs := cs.take i) (ys := [y]) H.drop rfl rfl hs (Src.row0 H m0 rfl) (fun _ => rfl) gC_one (by kernel_rfl) (by kernel_rfl) (by kernel_rfl) (by kernel_rfl) rfl (by simp only [List.length_singleton, List.length_take]; omega) (by simp only [List.length_singleton, List.length_take]; omega)) rfl ?_; (try clear H); rintro v' w ⟨B, hs, H⟩
      refine OpsE.ev (Ev.assign rfl) rfl ?_
      refine OpsE.nil ?_
      refine RunsE.inBlock ?_
      repeat (first | refine .seq ?_ | refine .skip ?_ | refine .block ?_ | refine .inBlock ?_ | refine .yes rfl ?_ | refine .no rfl ?_ | refine .exit rfl ?_)
      refine RunsE.region ?_
      refine OpsE.ev (Ev.move rfl) rfl ?_
      refine OpsE.ev (Ev.add rfl rfl) rfl ?_
      refine OpsE.ev (Ev.assign rfl) rfl ?_
      refine OpsE.nil ?_
      exact nextL (i + 1, v') _ _ (by simp only; omega) ⟨by simp only; omega, B, by simp only [ht]; exact hs, H⟩ ⟨rfl, rfl, rfl, trivial⟩
  clear H
  rintro v w ⟨B, hs, H⟩
  repeat (first | refine .seq ?_ | refine .skip ?_ | refine .block ?_ | refine .inBlock ?_ | refine .yes rfl ?_ | refine .no rfl ?_ | refine .exit rfl ?_)
  refine RunsE.region ?_
  refine OpsE.ev (Ev.move rfl) rfl ?_
  refine OpsE.ev (Ev.assign rfl) rfl ?_
  refine OpsE.nil ?_
  repeat (first | refine .seq ?_ | refine .skip ?_ | refine .block ?_ | refine .inBlock ?_ | refine .yes rfl ?_ | refine .no rfl ?_ | refine .exit rfl ?_)
  exact RunsE.ret1 Tryz.func17 rfl rfl ⟨B, hs, H⟩

theorem long_spec [Strm] (cs : List Ch) (v : Value) (hl : cs.length ≤ 9223372036854775807) (hb : ∀ c ∈ cs, c.key.length ≤ 140737488355328 ∧ c.val.length ≤ 140737488355328) (w : World) (X : List (Nat × Obj)) (hv : ElsA 3 (ChAt X) v cs) (H : SL w X) :
    Does Tryz.prog 15 #[v] w fun r w' => r = .bool (longM cs) ∧ SL w' X := by
  obtain ⟨av, cv, rfl, hcv⟩ := hv.len
  refine Does.intro (args := [_]) (e := [(0, _)]) Tryz.func15 rfl Tryz.ntmps15 rfl rfl ?_
  repeat (first | refine .seq ?_ | refine .skip ?_ | refine .block ?_ | refine .inBlock ?_ | refine .yes rfl ?_ | refine .no rfl ?_ | refine .exit rfl ?_)
  repeat (first | refine .seq ?_ | refine .skip ?_ | refine .block ?_ | refine .inBlock ?_ | refine .yes rfl ?_ | refine .no rfl ?_ | refine .exit rfl ?_)
  refine RunsE.region ?_
  refine OpsE.ev (Ev.assign rfl) rfl ?_
  refine OpsE.nil ?_
  repeat (first | refine .seq ?_ | refine .skip ?_ | refine .block ?_ | refine .inBlock ?_ | refine .yes rfl ?_ | refine .no rfl ?_ | refine .exit rfl ?_)
  refine RunsE.region ?_
  refine OpsE.ev (Ev.assign rfl) rfl ?_
  refine OpsE.nil ?_
  repeat (first | refine .seq ?_ | refine .skip ?_ | refine .block ?_ | refine .inBlock ?_ | refine .yes rfl ?_ | refine .no rfl ?_ | refine .exit rfl ?_)
  refine RunsE.region ?_
  refine OpsE.ev (Ev.assign rfl) rfl ?_
  refine OpsE.nil ?_
  have hszb : ∀ n, sizeM (cs.take n) ≤ n * (2 * 140737488355328) := fun n => Nat.le_trans (sizeM_le fun c hc => hb c ((List.take_sublist _ _).subset hc)) (Nat.mul_le_mul_right _ (by rw [List.length_take]; omega))
  repeat refine RunsE.seq ?_
  refine RunsE.join (fun n : Nat => [(0, .slice av cs.length cv), (3, .int .i64 (n : Int))])
    (fun n w => n = sizeM (cs.take 100) ∧ SL w X) (fun next => ?_) ?_
  · refine RunsE.block ?_
    refine RunsE.loop (fun i : Nat => [(0, .slice av cs.length cv), (3, .int .i64 (sizeM (cs.take i) : Int)), (4, .int .i64 (i : Int))])
      (fun i w => i ≤ cs.length ∧ i ≤ 100 ∧ SL w X) (fun i => 100 - i) 0 ⟨rfl, rfl, rfl, trivial⟩ ⟨by omega, by omega, H⟩ ?_
    clear H
    rintro i w ⟨hi, hi2, H⟩ nextL
    by_cases h1 : i = cs.length
    ·
      repeat (first | refine .seq ?_ | refine .skip ?_ | refine .block ?_ | refine .inBlock ?_ | refine .yes rfl ?_ | refine .no rfl ?_ | refine .exit rfl ?_)
      refine RunsE.region ?_
      refine OpsE.ev (Ev.move rfl) rfl ?_
      refine OpsE.ev (Ev.move rfl) rfl ?_
      refine OpsE.ev (Ev.lenSl (d := 104) rfl rfl (by kernel_rfl)) rfl ?_
      refine OpsE.ev (Ev.lss (r := false) rfl rfl (decide_eq_false (by omega))) rfl ?_
      refine OpsE.ev (Ev.move rfl) rfl ?_
      first | (refine OpsE.yes rfl rfl ?_; refine OpsE.ev (Ev.move rfl) rfl ?_) | refine OpsE.no rfl rfl rfl ?_ | refine OpsE.off rfl rfl rfl ?_
      first | (refine OpsE.yes rfl rfl ?_; refine OpsE.ev (Ev.lss rfl rfl) rfl ?_) | refine OpsE.no rfl rfl rfl ?_ | refine OpsE.off rfl rfl rfl ?_
      refine OpsE.ev ((by first | exact Ev.pickT rfl rfl | exact Ev.pickF rfl rfl)) rfl ?_
      refine OpsE.nil ?_
      repeat refine RunsE.seq ?_
      refine RunsE.no rfl ?_
      refine RunsE.exit rfl ?_
      exact next _ _ _ ⟨by rw [List.take_of_length_le (by omega), List.take_of_length_le (by omega)], H⟩ ⟨rfl, rfl, trivial⟩
    · have hil : i < cs.length := by omega
      by_cases h2 : i = 100
      ·
        repeat (first | refine .seq ?_ | refine .skip ?_ | refine .block ?_ | refine .inBlock ?_ | refine .yes rfl ?_ | refine .no rfl ?_ | refine .exit rfl ?_)
        refine RunsE.region ?_
        refine OpsE.ev (Ev.move rfl) rfl ?_
        refine OpsE.ev (Ev.move rfl) rfl ?_
        refine OpsE.ev (Ev.lenSl (d := 104) rfl rfl (by kernel_rfl)) rfl ?_
        refine OpsE.ev (Ev.lss (r := true) rfl rfl (decide_eq_true (by omega))) rfl ?_
        refine OpsE.ev (Ev.move rfl) rfl ?_
        first | (refine OpsE.yes rfl rfl ?_; refine OpsE.ev (Ev.move rfl) rfl ?_) | refine OpsE.no rfl rfl rfl ?_ | refine OpsE.off rfl rfl rfl ?_
        first | (refine OpsE.yes rfl rfl ?_; refine OpsE.ev (Ev.lss (r := false) rfl rfl (decide_eq_false (by omega))) rfl ?_) | refine OpsE.no rfl rfl rfl ?_ | refine OpsE.off rfl rfl rfl ?_
        refine OpsE.ev ((by first | exact Ev.pickT rfl rfl | exact Ev.pickF rfl rfl)) rfl ?_
        refine OpsE.nil ?_
        repeat refine RunsE.seq ?_
        refine RunsE.no rfl ?_
        refine RunsE.exit rfl ?_
        exact next _ _ _ ⟨by rw [h2], H⟩ ⟨rfl, rfl, trivial⟩
      clear next
      obtain ⟨y, hy⟩ : ∃ y, cs[i]? = some y := ⟨cs[i], List.getElem?_eq_getElem hil⟩
      have hyb := hb y (List.mem_of_getElem? hy)
      obtain ⟨bl, ol, rfl, hat⟩ := hv.at hy
      have ht : cs.take (i + 1) = cs.take i ++ [y] := by rw [List.take_add_one, hy]; rfl
      have hsz := hszb i
      have hmul : i * (2 * 140737488355328) ≤ 100 * (2 * 140737488355328) := Nat.mul_le_mul_right _ hi2
      repeat (first | refine .seq ?_ | refine .skip ?_ | refine .block ?_ | refine .inBlock ?_ | refine .yes rfl ?_ | refine .no rfl ?_ | refine .exit rfl ?_)
      refine RunsE.region ?_
      refine OpsE.ev (Ev.move rfl) rfl ?_
      refine OpsE.ev (Ev.move rfl) rfl ?_
      refine OpsE.ev (Ev.lenSl (d := 104) rfl rfl (by kernel_rfl)) rfl ?_
      refine OpsE.ev (Ev.lss (r := true) rfl rfl (decide_eq_true (by omega))) rfl ?_
      refine OpsE.ev (Ev.move rfl) rfl ?_
      first | (refine OpsE.yes rfl rfl ?_; refine OpsE.ev (Ev.move rfl) rfl ?_) | refine OpsE.no rfl rfl rfl ?_ | refine OpsE.off rfl rfl rfl ?_
      first | (refine OpsE.yes rfl rfl ?_; refine OpsE.ev (Ev.lss (r := true) rfl rfl (decide_eq_true (by omega))) rfl ?_) | refine OpsE.no rfl rfl rfl ?_ | refine OpsE.off rfl rfl rfl ?_
      refine OpsE.ev ((by first | exact Ev.pickT rfl rfl | exact Ev.pickF rfl rfl)) rfl ?_
      refine OpsE.nil ?_
      repeat refine RunsE.seq ?_
      refine RunsE.yes rfl ?_
      repeat (first | refine .seq ?_ | refine .skip ?_ | refine .block ?_ | refine .inBlock ?_ | refine .yes rfl ?_ | refine .no rfl ?_ | refine .exit rfl ?_)
      repeat (first | refine .seq ?_ | refine .skip ?_ | refine .block ?_ | refine .inBlock ?_ | refine .yes rfl ?_ | refine .no rfl ?_ | refine .exit rfl ?_)
      refine RunsE.drawS H [15] (by kernel_rfl) ?_; (try clear H); intro w H
      refine OpsD.take 0 rfl (by kernel_rfl) H (fun w H => Ev.move rfl) rfl ?_
      refine OpsD.take 1 rfl (by kernel_rfl) H (fun w H => Ev.move rfl) rfl ?_
      refine OpsD.take 2 rfl (by kernel_rfl) H (fun w H => Ev.move rfl) rfl ?_
      refine OpsD.take 3 rfl (by kernel_rfl) H (fun w H => Ev.iaSl (n := 104) (sz := 3) (m := i) (o := ol + i * 3) rfl rfl rfl (by kernel_rfl) hil) rfl ?_
      refine OpsD.take 4 rfl (by kernel_rfl) H (fun w H => Ev.fieldAddr (o := 0) (o' := ol + i * 3 + 0) rfl (by kernel_rfl) (by omega)) rfl ?_
      refine OpsD.take 5 rfl (by kernel_rfl) H (fun w H => Ev.load H rfl (by kernel_rfl) (hat 0 _ rfl)) rfl ?_
      refine OpsD.take 6 rfl (by kernel_rfl) H (fun w H => Ev.lenStrL rfl rfl Tryz.underlying9) rfl ?_
      refine OpsD.take 7 rfl (by kernel_rfl) H (fun w H => Ev.add (c := ((sizeM (cs.take i) + y.key.length : Nat) : Int)) rfl rfl (by rw [qi64 (by omega) (by omega)]; omega)) rfl ?_
      refine OpsD.take 8 rfl (by kernel_rfl) H (fun w H => Ev.move rfl) rfl ?_
      refine OpsD.take 9 rfl (by kernel_rfl) H (fun w H => Ev.move rfl) rfl ?_
      refine OpsD.take 10 rfl (by kernel_rfl) H (fun w H => Ev.iaSl (n := 104) (sz := 3) (m := i) (o := ol + i * 3) rfl rfl rfl (by kernel_rfl) hil) rfl ?_
      refine OpsD.take 11 rfl (by kernel_rfl) H (fun w H => Ev.fieldAddr (o := 1) (o' := ol + i * 3 + 1) rfl (by kernel_rfl) (by omega)) rfl ?_
      refine OpsD.take 12 rfl (by kernel_rfl) H (fun w H => Ev.load H rfl (by kernel_rfl) (hat 1 _ rfl)) rfl ?_
      refine OpsD.take 13 rfl (by kernel_rfl) H (fun w H => Ev.lenStrL rfl rfl Tryz.underlying9) rfl ?_
      refine OpsD.take 14 rfl (by kernel_rfl) H (fun w H => Ev.add (c := ((sizeM (cs.take (i + 1)) : Nat) : Int)) rfl rfl (by rw [ht, sizeM_snoc, qi64 (by omega) (by omega)]; omega)) rfl ?_
      refine OpsD.one 15 (by kernel_rfl) (StepD.exT rfl rfl (Ev.ex (Ev.assign rfl)) rfl ?_); rintro _ _ ⟨rfl, rfl⟩
      refine OpsD.done (by kernel_rfl) ?_
      refine RunsE.inBlock ?_
      repeat (first | refine .seq ?_ | refine .skip ?_ | refine .block ?_ | refine .inBlock ?_ | refine .yes rfl ?_ | refine .no rfl ?_ | refine .exit rfl ?_)
      refine RunsE.region ?_
      refine OpsE.ev (Ev.move rfl) rfl ?_
      refine OpsE.ev (Ev.add rfl rfl) rfl ?_
      refine OpsE.ev (Ev.assign rfl) rfl ?_
      refine OpsE.nil ?_
      exact nextL (i + 1) _ _ (by omega) ⟨by omega, by omega, H⟩ ⟨rfl, rfl, rfl, trivial⟩
  clear H
  rintro n w ⟨hn, H⟩
  have hsz := hszb 100
  by_cases h1 : 60 < cs.length
  ·
    repeat (first | refine .seq ?_ | refine .skip ?_ | refine .block ?_ | refine .inBlock ?_ | refine .yes rfl ?_ | refine .no rfl ?_ | refine .exit rfl ?_)
    refine RunsE.region ?_
    refine OpsE.ev (Ev.move rfl) rfl ?_
    refine OpsE.ev (Ev.lenSl (d := 104) rfl rfl (by kernel_rfl)) rfl ?_
    refine OpsE.ev (Ev.gtr (r := true) rfl rfl (decide_eq_true (by omega))) rfl ?_
    refine OpsE.ev (Ev.move rfl) rfl ?_
    first | (refine OpsE.yes rfl rfl ?_; refine OpsE.ev (Ev.move rfl) rfl ?_) | refine OpsE.no rfl rfl rfl ?_ | refine OpsE.off rfl rfl rfl ?_
    first | (refine OpsE.yes rfl rfl ?_; refine OpsE.ev (Ev.gtr rfl rfl) rfl ?_) | refine OpsE.no rfl rfl rfl ?_ | refine OpsE.off rfl rfl rfl ?_
    refine OpsE.ev ((by first | exact Ev.pickT rfl rfl | exact Ev.pickF rfl rfl)) rfl ?_
    refine OpsE.ev (Ev.assign rfl) rfl ?_
    refine OpsE.nil ?_
    repeat (first | refine .seq ?_ | refine .skip ?_ | refine .block ?_ | refine .inBlock ?_ | refine .yes rfl ?_ | refine .no rfl ?_ | refine .exit rfl ?_)
    exact RunsE.ret1 Tryz.func15 rfl rfl ⟨by rw [longM, decide_eq_true h1]; rfl, H⟩
  ·
    repeat (first | refine .seq ?_ | refine .skip ?_ | refine .block ?_ | refine .inBlock ?_ | refine .yes rfl ?_ | refine .no rfl ?_ | refine .exit rfl ?_)
    refine RunsE.region ?_
    refine OpsE.ev (Ev.move rfl) rfl ?_
    refine OpsE.ev (Ev.lenSl (d := 104) rfl rfl (by kernel_rfl)) rfl ?_
    refine OpsE.ev (Ev.gtr (r := false) rfl rfl (decide_eq_false (by omega))) rfl ?_
    refine OpsE.ev (Ev.move rfl) rfl ?_
    first | (refine OpsE.yes rfl rfl ?_; refine OpsE.ev (Ev.move rfl) rfl ?_) | refine OpsE.no rfl rfl rfl ?_ | refine OpsE.off rfl rfl rfl ?_
    first | (refine OpsE.yes rfl rfl ?_; refine OpsE.ev (Ev.gtr (r := decide (20000 < n)) rfl rfl (by rw [Bool.eq_iff_iff, decide_eq_true_iff, decide_eq_true_iff]; omega)) rfl ?_) | refine OpsE.no rfl rfl rfl ?_ | refine OpsE.off rfl rfl rfl ?_
    refine OpsE.ev ((by first | exact Ev.pickT rfl rfl | exact Ev.pickF rfl rfl)) rfl ?_
    refine OpsE.ev (Ev.assign rfl) rfl ?_
    refine OpsE.nil ?_
    repeat (first | refine .seq ?_ | refine .skip ?_ | refine .block ?_ | refine .inBlock ?_ | refine .yes rfl ?_ | refine .no rfl ?_ | refine .exit rfl ?_)
    exact RunsE.ret1 Tryz.func15 rfl rfl ⟨by rw [longM, decide_eq_false h1, ← hn]; rfl, H⟩

end Go.Proofs.YtflfaiakenahlaaGreatDoor
end
