/-
  The statement 'TimerAdds': its function, walked.
-/
import Derived.Test.YtgeocehgobcdjaaDoorTimerLaw
namespace Go.Proofs.YtgeocehgobcdjaaDoor.V

/-- Strings that came in. -/
def StrsIn (L : List (Nat × Obj)) : Value → List (List UInt8) → Prop := Els L fun v s => v = .string ⟨s.toArray⟩

section
open Go.ChangeShapes Go.WideShapes Go.ChangeAt Go.RowKit
variable {H : Type} {enc : TypeId × Value → H} {P : Program} {w : World}
theorem str_cell {t n : Nat} {u : Value} {x : DataW H × List MemPlace} (ht : P.underlying t = some .string) (h : DataW.trod enc P w 0 (fun _ => true) true n t [u] = some x) : ∃ s : List UInt8, u = .string ⟨s.toArray⟩ := by
  cases n with
  | zero => simp [DataW.trod] at h
  | succ n =>
    unfold DataW.trod at h
    rw [ht] at h
    split at h
    all_goals first
      | (rename_i s hs; simp at hs; exact ⟨_, by rw [hs.2]⟩)
      | (rename_i s _ _; simp_all; exact ⟨_, rfl⟩)
      | simp_all

theorem strs_in {t e : TypeId} {v : Value} {d : DataW H} {ps : List MemPlace} (ht : P.underlying t = some (.slice e)) (he : P.underlying e = some .string) (hc : P.cellsOf e = 1)
    (hs : ∃ a len cap, v = .slice a len cap) (h : DataW.Trod enc P w 0 (fun _ => true) true t v d ps) : ∃ zs : List (List UInt8), zs.length ≤ maxLen ∧ StrsIn (oldL w) v zs :=
  els_in ht hc (fun _ _ _ h => str_cell he h) hs h
end

end Go.Proofs.YtgeocehgobcdjaaDoor.V
namespace Go.Proofs.YtgeocehgobcdjaaDoor
open Go.Proofs.YtgeocehgobcdjaaDoor.V

/-- The queue, and the document's one, in memory. -/
structure QPair [Strm] (F : List (Nat × Obj)) (b b6 k : Nat) (w : World) : Prop where
  of :: ex : ∃ xs L last x A D, QH b xs last A ∧ QRel xs L last ∧ last ≤ k ∧ RefT (D ++ F) L x ∧ SL w (A ++ ((b6, .cells (tV L last x).toArray 28 (0, 0)) :: (D ++ F)))

theorem refT_nil {G : List (Nat × Obj)} : RefT G [] ⟨none, 0⟩ := .nil

set_option maxHeartbeats 4000000 in
theorem addslaw_spec [Strm] (ds : List Int) (ns : List (List UInt8)) (vd vn : Value) (w : World) (F : List (Nat × Obj)) (hvd : IntsIn .i64 F vd ds) (hvn : StrsIn F vn ns) (hE : ErrIn F) (H : SL w F) :
    Does Tryd.prog 3 #[vd, vn] w fun r w' => r = .bool true ∧ SL w' F := by
  obtain ⟨ad, cd, rfl, hcd⟩ := hvd.len
  obtain ⟨an, cn, rfl, hcn⟩ := hvn.len
  refine Does.intro (args := [_, _]) (e := [(0, _), (1, _)]) Tryd.func3 rfl Tryd.ntmps3 rfl rfl ?_
  repeat (first | refine RunsE.seq ?_ | refine RunsE.skip ?_ | refine RunsE.block ?_ | refine RunsE.inBlock ?_ | refine RunsE.yes rfl ?_ | refine RunsE.no rfl ?_ | refine RunsE.exit rfl ?_)
  repeat (first | refine RunsE.seq ?_ | refine RunsE.skip ?_ | refine RunsE.block ?_ | refine RunsE.inBlock ?_ | refine RunsE.yes rfl ?_ | refine RunsE.no rfl ?_ | refine RunsE.exit rfl ?_)
  refine RunsE.region ?_
  refine OpsE.ev (Ev.assign rfl) rfl ?_
  refine OpsE.nil ?_
  repeat (first | refine RunsE.seq ?_ | refine RunsE.skip ?_ | refine RunsE.block ?_ | refine RunsE.inBlock ?_ | refine RunsE.yes rfl ?_ | refine RunsE.no rfl ?_ | refine RunsE.exit rfl ?_)
  refine RunsE.region ?_
  refine OpsE.ex (Ex.call rfl Tryd.call6 (tnew_spec w _ H)) rfl ?_; (try clear H); rintro _ w ⟨b, A, rfl, hA, H⟩
  refine OpsE.ev (Ev.assign rfl) rfl ?_
  refine OpsE.nil ?_
  repeat (first | refine RunsE.seq ?_ | refine RunsE.skip ?_ | refine RunsE.block ?_ | refine RunsE.inBlock ?_ | refine RunsE.yes rfl ?_ | refine RunsE.no rfl ?_ | refine RunsE.exit rfl ?_)
  refine RunsE.region ?_
  refine OpsE.ev (Ev.move rfl) rfl ?_
  refine OpsE.ev (Ev.ptrNilEq (el := 62) rfl rfl (by kernel_rfl)) rfl ?_
  refine OpsE.nil ?_
  repeat (first | refine RunsE.seq ?_ | refine RunsE.skip ?_ | refine RunsE.block ?_ | refine RunsE.inBlock ?_ | refine RunsE.yes rfl ?_ | refine RunsE.no rfl ?_ | refine RunsE.exit rfl ?_)
  refine RunsE.region ?_
  refine OpsE.ev (Ev.buildSt (pl := [(0, 1), (1, 1)]) (zv := .agg #[.slice none 0 0, .int .i64 0]) rfl (by kernel_rfl) (by kernel_rfl) rfl) rfl ?_
  refine OpsE.ex (Ex.alloc (zv := .agg #[.slice none 0 0, .int .i64 0]) H (by kernel_rfl)) rfl ?_; (try clear H); rintro _ w ⟨b6, rfl, H⟩; simp only [Value.cells] at H
  refine OpsE.exn (Ex.storeBlk (n := 2) (vs := tV [] 0 ⟨none, 0⟩) H rfl rfl (by kernel_rfl) rfl (tV_one _ _ _) u0 rfl (Thaw.zero _ _)) ?_; (try clear H); intro _ w H
  refine OpsE.nil ?_
  have HP : QPair F b b6 0 w := .of ⟨[], [], 0, ⟨none, 0⟩, A, [], hA, .nil, Nat.le_refl _, refT_nil, H.mid⟩
  clear H hA A
  repeat (first | refine RunsE.seq ?_ | refine RunsE.skip ?_ | refine RunsE.block ?_ | refine RunsE.inBlock ?_ | refine RunsE.yes rfl ?_ | refine RunsE.no rfl ?_ | refine RunsE.exit rfl ?_)
  refine RunsE.region ?_
  refine OpsE.ev (Ev.assign rfl) rfl ?_
  refine OpsE.nil ?_
  repeat refine RunsE.seq ?_
  refine RunsE.join (fun _ : Unit => [(5, .pointer (some ⟨b, 0, none⟩)), (6, .pointer (some ⟨b6, 0, none⟩))]) (fun _ w => QPair F b b6 60 w) (fun next => ?_) ?_
  · refine RunsE.block ?_
    refine RunsE.loop (fun i : Nat => [(0, .slice ad ds.length cd), (1, .slice an ns.length cn), (5, .pointer (some ⟨b, 0, none⟩)), (6, .pointer (some ⟨b6, 0, none⟩)), (7, .int .i64 (i : Int))])
      (fun i w => i ≤ 60 ∧ QPair F b b6 i w) (fun i => 60 - i) 0 ⟨rfl, rfl, rfl, rfl, rfl, trivial⟩ ⟨by omega, HP⟩ ?_
    clear HP
    rintro i w ⟨hi, HP⟩ nextL
    obtain ⟨xs, L, last, x, A, D, hA, hQ, hlk, hR, H⟩ := HP.ex
    by_cases h1 : ds.length ≤ i
    ·
      repeat (first | refine RunsE.seq ?_ | refine RunsE.skip ?_ | refine RunsE.block ?_ | refine RunsE.inBlock ?_ | refine RunsE.yes rfl ?_ | refine RunsE.no rfl ?_ | refine RunsE.exit rfl ?_)
      refine RunsE.region ?_
      refine OpsE.ev (Ev.move rfl) rfl ?_
      refine OpsE.ev (Ev.move rfl) rfl ?_
      refine OpsE.ev (Ev.lenSl (d := 3) rfl rfl (by kernel_rfl)) rfl ?_
      refine OpsE.ev (Ev.lss (r := false) rfl rfl (decide_eq_false (by omega))) rfl ?_
      refine OpsE.ev (Ev.move rfl) rfl ?_
      first | (refine OpsE.yes rfl rfl ?_; refine OpsE.ev (Ev.move rfl) rfl ?_) | refine OpsE.no rfl rfl rfl ?_ | refine OpsE.off rfl rfl rfl ?_
      first | (refine OpsE.yes rfl rfl ?_; refine OpsE.ev (Ev.lss rfl rfl) rfl ?_) | refine OpsE.no rfl rfl rfl ?_ | refine OpsE.off rfl rfl rfl ?_
      refine OpsE.ev ((by first | exact Ev.pickT rfl rfl | exact Ev.pickF rfl rfl)) rfl ?_
      refine OpsE.nil ?_
      repeat refine RunsE.seq ?_
      refine RunsE.no rfl ?_
      refine RunsE.exit rfl ?_
      exact next () _ _ (.of ⟨xs, L, last, x, A, D, hA, hQ, by omega, hR, H⟩) ⟨rfl, rfl, trivial⟩
    by_cases h2 : i = 60
    ·
      repeat (first | refine RunsE.seq ?_ | refine RunsE.skip ?_ | refine RunsE.block ?_ | refine RunsE.inBlock ?_ | refine RunsE.yes rfl ?_ | refine RunsE.no rfl ?_ | refine RunsE.exit rfl ?_)
      refine RunsE.region ?_
      refine OpsE.ev (Ev.move rfl) rfl ?_
      refine OpsE.ev (Ev.move rfl) rfl ?_
      refine OpsE.ev (Ev.lenSl (d := 3) rfl rfl (by kernel_rfl)) rfl ?_
      refine OpsE.ev (Ev.lss (r := true) rfl rfl (decide_eq_true (by omega))) rfl ?_
      refine OpsE.ev (Ev.move rfl) rfl ?_
      first | (refine OpsE.yes rfl rfl ?_; refine OpsE.ev (Ev.move rfl) rfl ?_) | refine OpsE.no rfl rfl rfl ?_ | refine OpsE.off rfl rfl rfl ?_
      first | (refine OpsE.yes rfl rfl ?_; refine OpsE.ev (Ev.lss (r := false) rfl rfl (decide_eq_false (by omega))) rfl ?_) | refine OpsE.no rfl rfl rfl ?_ | refine OpsE.off rfl rfl rfl ?_
      refine OpsE.ev ((by first | exact Ev.pickT rfl rfl | exact Ev.pickF rfl rfl)) rfl ?_
      refine OpsE.nil ?_
      repeat refine RunsE.seq ?_
      refine RunsE.no rfl ?_
      refine RunsE.exit rfl ?_
      exact next () _ _ (.of ⟨xs, L, last, x, A, D, hA, hQ, by omega, hR, H⟩) ⟨rfl, rfl, trivial⟩
    clear next HP
    obtain ⟨z, hz⟩ : ∃ z, ds[i]? = some z := ⟨ds[i]'(by omega), by simp [show i < ds.length by omega]⟩
    obtain ⟨bd, od, _, rfl, hdr, rfl, _⟩ := hvd.at hz
    have hxl := hQ.perm.length_eq
    have hLl := hQ.len
    repeat (first | refine RunsE.seq ?_ | refine RunsE.skip ?_ | refine RunsE.block ?_ | refine RunsE.inBlock ?_ | refine RunsE.yes rfl ?_ | refine RunsE.no rfl ?_ | refine RunsE.exit rfl ?_)
    refine RunsE.region ?_
    refine OpsE.ev (Ev.move rfl) rfl ?_
    refine OpsE.ev (Ev.move rfl) rfl ?_
    refine OpsE.ev (Ev.lenSl (d := 3) rfl rfl (by kernel_rfl)) rfl ?_
    refine OpsE.ev (Ev.lss (r := true) rfl rfl (decide_eq_true (by omega))) rfl ?_
    refine OpsE.ev (Ev.move rfl) rfl ?_
    first | (refine OpsE.yes rfl rfl ?_; refine OpsE.ev (Ev.move rfl) rfl ?_) | refine OpsE.no rfl rfl rfl ?_ | refine OpsE.off rfl rfl rfl ?_
    first | (refine OpsE.yes rfl rfl ?_; refine OpsE.ev (Ev.lss (r := true) rfl rfl (decide_eq_true (by omega))) rfl ?_) | refine OpsE.no rfl rfl rfl ?_ | refine OpsE.off rfl rfl rfl ?_
    refine OpsE.ev ((by first | exact Ev.pickT rfl rfl | exact Ev.pickF rfl rfl)) rfl ?_
    refine OpsE.nil ?_
    repeat (first | refine RunsE.seq ?_ | refine RunsE.skip ?_ | refine RunsE.block ?_ | refine RunsE.inBlock ?_ | refine RunsE.yes rfl ?_ | refine RunsE.no rfl ?_ | refine RunsE.exit rfl ?_)
    repeat (first | refine RunsE.seq ?_ | refine RunsE.skip ?_ | refine RunsE.block ?_ | refine RunsE.inBlock ?_ | refine RunsE.yes rfl ?_ | refine RunsE.no rfl ?_ | refine RunsE.exit rfl ?_)
    refine RunsE.region ?_
    refine OpsE.ev (Ev.assign rfl) rfl ?_
    refine OpsE.nil ?_
    refine RunsE.seq ?_
    refine (RunsE.join (fun s : List UInt8 => [(0, .slice (some ⟨bd, od, none⟩) ds.length cd), (1, .slice an ns.length cn), (5, .pointer (some ⟨b, 0, none⟩)), (6, .pointer (some ⟨b6, 0, none⟩)), (7, .int .i64 (i : Int)), (8, .string ⟨s.toArray⟩)])
      (fun _ w => SL w (A ++ ((b6, .cells (tV L last x).toArray 28 (0, 0)) :: (D ++ F)))) (fun next => ?_) ?_)
    · by_cases h3 : ns.length ≤ i
      ·
        repeat (first | refine RunsE.seq ?_ | refine RunsE.skip ?_ | refine RunsE.block ?_ | refine RunsE.inBlock ?_ | refine RunsE.yes rfl ?_ | refine RunsE.no rfl ?_ | refine RunsE.exit rfl ?_)
        refine RunsE.region ?_
        refine OpsE.ev (Ev.move rfl) rfl ?_
        refine OpsE.ev (Ev.move rfl) rfl ?_
        refine OpsE.ev (Ev.lenSl (d := 9) rfl rfl (by kernel_rfl)) rfl ?_
        refine OpsE.ev (Ev.lss (r := false) rfl rfl (decide_eq_false (by omega))) rfl ?_
        refine OpsE.nil ?_
        repeat refine RunsE.seq ?_
        refine RunsE.no rfl ?_
        refine RunsE.skip ?_
        exact next [] _ _ H ⟨rfl, rfl, rfl, rfl, rfl, rfl, trivial⟩
      · obtain ⟨s, hs⟩ : ∃ s, ns[i]? = some s := ⟨ns[i]'(by omega), by simp [show i < ns.length by omega]⟩
        obtain ⟨bn, on, _, rfl, hnr, rfl⟩ := hvn.at hs
        repeat (first | refine RunsE.seq ?_ | refine RunsE.skip ?_ | refine RunsE.block ?_ | refine RunsE.inBlock ?_ | refine RunsE.yes rfl ?_ | refine RunsE.no rfl ?_ | refine RunsE.exit rfl ?_)
        refine RunsE.region ?_
        refine OpsE.ev (Ev.move rfl) rfl ?_
        refine OpsE.ev (Ev.move rfl) rfl ?_
        refine OpsE.ev (Ev.lenSl (d := 9) rfl rfl (by kernel_rfl)) rfl ?_
        refine OpsE.ev (Ev.lss (r := true) rfl rfl (decide_eq_true (by omega))) rfl ?_
        refine OpsE.nil ?_
        repeat refine RunsE.seq ?_
        refine RunsE.yes rfl ?_
        repeat (first | refine RunsE.seq ?_ | refine RunsE.skip ?_ | refine RunsE.block ?_ | refine RunsE.inBlock ?_ | refine RunsE.yes rfl ?_ | refine RunsE.no rfl ?_ | refine RunsE.exit rfl ?_)
        refine RunsE.region ?_
        refine OpsE.ev (Ev.move rfl) rfl ?_
        refine OpsE.ev (Ev.move rfl) rfl ?_
        refine OpsE.ev (Ev.iaSl (n := 9) (sz := 1) (m := i) (o := on + i) rfl rfl rfl (by kernel_rfl) (by omega) (by omega)) rfl ?_
        refine OpsE.ev (Ev.load H rfl (by kernel_rfl) hnr.right.tail.right) rfl ?_
        refine OpsE.ev (Ev.assign rfl) rfl ?_
        refine OpsE.nil ?_
        exact next s _ _ H ⟨rfl, rfl, rfl, rfl, rfl, rfl, trivial⟩
    clear H
    rintro s w H
    repeat (first | refine RunsE.seq ?_ | refine RunsE.skip ?_ | refine RunsE.block ?_ | refine RunsE.inBlock ?_ | refine RunsE.yes rfl ?_ | refine RunsE.no rfl ?_ | refine RunsE.exit rfl ?_)
    refine RunsE.region ?_
    refine OpsE.ev (Ev.move rfl) rfl ?_
    refine OpsE.ev (Ev.move rfl) rfl ?_
    refine OpsE.ev (Ev.move rfl) rfl ?_
    refine OpsE.ev (Ev.iaSl (n := 3) (sz := 1) (m := i) (o := od + i) rfl rfl rfl (by kernel_rfl) (by omega) (by omega)) rfl ?_
    refine OpsE.ev (Ev.load H rfl (by kernel_rfl) hdr.right.tail.right) rfl ?_
    refine OpsE.ev (Ev.move rfl) rfl ?_
    refine OpsE.ex (Ex.call rfl Tryd.call7 (add_all b xs last z s (by omega) (by omega) A w _ hA H)) rfl ?_; (try clear H); rintro _ w ⟨ys, last', A, rfl, hadd, hA, H⟩
    refine OpsE.ev (Ev.move rfl) rfl ?_
    refine OpsE.ev (Ev.extract rfl rfl) rfl ?_
    refine OpsE.ev (Ev.extract rfl rfl) rfl ?_
    refine OpsE.ev (Ev.assign rfl) rfl ?_
    refine OpsE.ev (Ev.assign rfl) rfl ?_
    refine OpsE.nil ?_
    obtain ⟨X0, hX0⟩ : ∃ X0, X0 = A ++ ((b6, .cells (tV L last x).toArray 28 (0, 0)) :: (D ++ F)) := ⟨_, rfl⟩
    have hG0 : ∀ p ∈ D ++ F, p ∈ X0 := fun p hp => by rw [hX0]; exact List.mem_append_right _ (.tail _ hp)
    have hm6 : (b6, Obj.cells (tV L last x).toArray 28 (0, 0)) ∈ X0 := by rw [hX0]; simp
    have hdr0 : Rd X0 ⟨bd, od + i, none⟩ (.int .i64 z) := by rw [hX0]; exact hdr.right.tail.right
    rw [← hX0] at H
    repeat refine RunsE.seq ?_
    refine (RunsE.join (fun p : List TEv × Nat × TX × Nat => [(0, .slice (some ⟨bd, od, none⟩) ds.length cd), (1, .slice an ns.length cn), (5, .pointer (some ⟨b, 0, none⟩)), (6, .pointer (some ⟨b6, 0, none⟩)), (7, .int .i64 (i : Int)), (9, .int .i64 (addNum last z s : Int)), (10, EN (addErr z s)), (11, .pointer (some ⟨p.2.2.2, 0, none⟩)), (12, .int .i64 (addNum last z s : Int)), (13, .int .i64 (addErr z s : Int))])
      (fun p w => ((addErr z s ≠ 0 ∧ p.1 = L ∧ p.2.1 = last) ∨ (addErr z s = 0 ∧ Inserted L p.1 ⟨last + 1, z.toNat, s⟩ ∧ p.2.1 = last + 1)) ∧ ∃ B, RefT (B ++ (D ++ F)) p.1 p.2.2.1 ∧ SL w ((p.2.2.2, .cells (tV p.1 p.2.1 p.2.2.1).toArray 28 (0, 0)) :: (B ++ X0))) (fun next => ?_) ?_)
    ·
      repeat (first | refine RunsE.seq ?_ | refine RunsE.skip ?_ | refine RunsE.block ?_ | refine RunsE.inBlock ?_ | refine RunsE.yes rfl ?_ | refine RunsE.no rfl ?_ | refine RunsE.exit rfl ?_)
      refine RunsE.drawS H [] (by kernel_rfl) ?_; (try clear H); intro w H
      refine OpsD.take 0 rfl (by kernel_rfl) (by first | exact H | exact H.drop | exact H.drop.drop | exact H.dropL | exact H.drop.dropL | exact H.dropL.drop | exact H.dropL.dropL | exact H.dropMid) (fun w H => Ev.loadBlk (n := 2) (vs := tV L last x) H rfl (by kernel_rfl) rfl hm6) rfl ?_
      refine OpsD.take 1 rfl (by kernel_rfl) (by first | exact H | exact H.drop | exact H.drop.drop | exact H.dropL | exact H.drop.dropL | exact H.dropL.drop | exact H.dropL.dropL | exact H.dropMid) (fun w H => Ev.move rfl) rfl ?_
      refine OpsD.take 2 rfl (by kernel_rfl) (by first | exact H | exact H.drop | exact H.drop.drop | exact H.dropL | exact H.drop.dropL | exact H.dropL.drop | exact H.dropL.dropL | exact H.dropMid) (fun w H => Ev.move rfl) rfl ?_
      refine OpsD.take 3 rfl (by kernel_rfl) (by first | exact H | exact H.drop | exact H.drop.drop | exact H.dropL | exact H.drop.dropL | exact H.dropL.drop | exact H.dropL.dropL | exact H.dropMid) (fun w H => Ev.iaSl (n := 3) (sz := 1) (m := i) (o := od + i) rfl rfl rfl (by kernel_rfl) (by omega) (by omega)) rfl ?_
      refine OpsD.take 4 rfl (by kernel_rfl) (by first | exact H | exact H.drop | exact H.drop.drop | exact H.dropL | exact H.drop.dropL | exact H.dropL.drop | exact H.dropL.dropL | exact H.dropMid) (fun w H => Ev.load H rfl (by kernel_rfl) hdr0) rfl ?_
      refine OpsD.take 5 rfl (by kernel_rfl) (by first | exact H | exact H.drop | exact H.drop.drop | exact H.dropL | exact H.drop.dropL | exact H.dropL.drop | exact H.dropL.dropL | exact H.dropMid) (fun w H => Ev.move rfl) rfl ?_
      refine OpsD.two 6 11 (by kernel_rfl) (StepD.ex rfl (Ex.call rfl Tryd.call8 (radd_all L last x z s (by omega) (by omega) w _ (D ++ F) (by first | exact hG0 | exact fun p hp => .tail _ (hG0 p hp)) hR H)) rfl ?_) (StepD.ex rfl (Ex.alloc (zv := .agg #[.slice none 0 0, .int .i64 0]) H (by kernel_rfl)) rfl ?_)
      · (try clear H); rintro _ w ⟨L', l2, B, x', rfl, hradd, hR', H⟩; refine ⟨(by first | exact H | exact H.drop | exact H.drop.drop | exact H.dropL | exact H.drop.dropL | exact H.dropL.drop | exact H.dropL.dropL | exact H.dropMid), ?_⟩
        refine OpsD.take 7 rfl (by kernel_rfl) (by first | exact H | exact H.drop | exact H.drop.drop | exact H.dropL | exact H.drop.dropL | exact H.dropL.drop | exact H.dropL.dropL | exact H.dropMid) (fun w H => Ev.move rfl) rfl ?_
        refine OpsD.take 8 rfl (by kernel_rfl) (by first | exact H | exact H.drop | exact H.drop.drop | exact H.dropL | exact H.drop.dropL | exact H.dropL.drop | exact H.dropL.dropL | exact H.dropMid) (fun w H => Ev.extract rfl rfl) rfl ?_
        refine OpsD.take 9 rfl (by kernel_rfl) (by first | exact H | exact H.drop | exact H.drop.drop | exact H.dropL | exact H.drop.dropL | exact H.dropL.drop | exact H.dropL.dropL | exact H.dropMid) (fun w H => Ev.extract rfl rfl) rfl ?_
        refine OpsD.take 10 rfl (by kernel_rfl) (by first | exact H | exact H.drop | exact H.drop.drop | exact H.dropL | exact H.drop.dropL | exact H.dropL.drop | exact H.dropL.dropL | exact H.dropMid) (fun w H => Ev.extract rfl rfl) rfl ?_
        refine OpsD.one 11 (by kernel_rfl) (StepD.ex rfl (Ex.alloc (zv := .agg #[.slice none 0 0, .int .i64 0]) H (by kernel_rfl)) rfl ?_); (try clear H); rintro _ w ⟨b11, rfl, H⟩; simp only [Value.cells] at H; refine ⟨(by first | exact H | exact H.drop | exact H.drop.drop | exact H.dropL | exact H.drop.dropL | exact H.dropL.drop | exact H.dropL.dropL | exact H.dropMid), ?_⟩
        refine OpsD.one 12 (by kernel_rfl) (StepD.exn rfl (Ex.storeBlk (n := 2) (vs := tV L' l2 x') (cs := #[.slice none 0 0, .int .i64 0]) H rfl rfl (by kernel_rfl) rfl (tV_one _ _ _) (by first | exact u0 | exact Upd.skip u0 _) rfl (Thaw.zero _ _)) ?_); (try clear H); intro _ w H; refine ⟨(by first | exact H | exact H.drop | exact H.drop.drop | exact H.dropL | exact H.drop.dropL | exact H.dropL.drop | exact H.dropL.dropL | exact H.dropMid), ?_⟩
        refine OpsD.take 13 rfl (by kernel_rfl) (by first | exact H | exact H.drop | exact H.drop.drop | exact H.dropL | exact H.drop.dropL | exact H.dropL.drop | exact H.dropL.dropL | exact H.dropMid) (fun w H => Ev.assign rfl) rfl ?_
        refine OpsD.take 14 rfl (by kernel_rfl) (by first | exact H | exact H.drop | exact H.drop.drop | exact H.dropL | exact H.drop.dropL | exact H.dropL.drop | exact H.dropL.dropL | exact H.dropMid) (fun w H => Ev.assign rfl) rfl ?_
        refine OpsD.done (by kernel_rfl) ?_
        exact next (L', l2, x', b11) _ _ ⟨hradd, B, hR', by first | exact H | exact H.mid | exact H.unmid⟩ ⟨rfl, rfl, rfl, rfl, rfl, rfl, rfl, rfl, rfl, rfl, trivial⟩
      · (try clear H); rintro _ w ⟨b11, rfl, H⟩; simp only [Value.cells] at H; refine ⟨(by first | exact H | exact H.drop | exact H.drop.drop | exact H.dropL | exact H.drop.dropL | exact H.dropL.drop | exact H.dropL.dropL | exact H.dropMid), ?_⟩
        refine OpsD.one 6 (by kernel_rfl) (StepD.ex rfl (Ex.call rfl Tryd.call8 (radd_all L last x z s (by omega) (by omega) w _ (D ++ F) (by first | exact hG0 | exact fun p hp => .tail _ (hG0 p hp)) hR H)) rfl ?_); (try clear H); rintro _ w ⟨L', l2, B, x', rfl, hradd, hR', H⟩; refine ⟨(by first | exact H | exact H.drop | exact H.drop.drop | exact H.dropL | exact H.drop.dropL | exact H.dropL.drop | exact H.dropL.dropL | exact H.dropMid), ?_⟩
        refine OpsD.take 7 rfl (by kernel_rfl) (by first | exact H | exact H.drop | exact H.drop.drop | exact H.dropL | exact H.drop.dropL | exact H.dropL.drop | exact H.dropL.dropL | exact H.dropMid) (fun w H => Ev.move rfl) rfl ?_
        refine OpsD.take 8 rfl (by kernel_rfl) (by first | exact H | exact H.drop | exact H.drop.drop | exact H.dropL | exact H.drop.dropL | exact H.dropL.drop | exact H.dropL.dropL | exact H.dropMid) (fun w H => Ev.extract rfl rfl) rfl ?_
        refine OpsD.take 9 rfl (by kernel_rfl) (by first | exact H | exact H.drop | exact H.drop.drop | exact H.dropL | exact H.drop.dropL | exact H.dropL.drop | exact H.dropL.dropL | exact H.dropMid) (fun w H => Ev.extract rfl rfl) rfl ?_
        refine OpsD.take 10 rfl (by kernel_rfl) (by first | exact H | exact H.drop | exact H.drop.drop | exact H.dropL | exact H.drop.dropL | exact H.dropL.drop | exact H.dropL.dropL | exact H.dropMid) (fun w H => Ev.extract rfl rfl) rfl ?_
        refine OpsD.one 12 (by kernel_rfl) (StepD.exn rfl (Ex.storeBlk (n := 2) (vs := tV L' l2 x') (cs := #[.slice none 0 0, .int .i64 0]) H rfl rfl (by kernel_rfl) rfl (tV_one _ _ _) (by first | exact u0 | exact Upd.skip u0 _) rfl (Thaw.zero _ _)) ?_); (try clear H); intro _ w H; refine ⟨(by first | exact H | exact H.drop | exact H.drop.drop | exact H.dropL | exact H.drop.dropL | exact H.dropL.drop | exact H.dropL.dropL | exact H.dropMid), ?_⟩
        refine OpsD.take 13 rfl (by kernel_rfl) (by first | exact H | exact H.drop | exact H.drop.drop | exact H.dropL | exact H.drop.dropL | exact H.dropL.drop | exact H.dropL.dropL | exact H.dropMid) (fun w H => Ev.assign rfl) rfl ?_
        refine OpsD.take 14 rfl (by kernel_rfl) (by first | exact H | exact H.drop | exact H.drop.drop | exact H.dropL | exact H.drop.dropL | exact H.dropL.drop | exact H.dropL.dropL | exact H.dropMid) (fun w H => Ev.assign rfl) rfl ?_
        refine OpsD.done (by kernel_rfl) ?_
        exact next (L', l2, x', b11) _ _ ⟨hradd, B, hR', by first | exact H | exact H.mid | exact H.unmid⟩ ⟨rfl, rfl, rfl, rfl, rfl, rfl, rfl, rfl, rfl, rfl, trivial⟩
    clear H hR
    rintro ⟨L', l2, x', b11⟩ w ⟨hradd, B, hR, H⟩
    simp only at hradd hR H
    obtain ⟨hll, hQ', hlb⟩ := rel_add hQ hadd hradd
    subst hll
    rw [hX0] at H
    repeat (first | refine RunsE.seq ?_ | refine RunsE.skip ?_ | refine RunsE.block ?_ | refine RunsE.inBlock ?_ | refine RunsE.yes rfl ?_ | refine RunsE.no rfl ?_ | refine RunsE.exit rfl ?_)
    refine RunsE.region ?_
    refine OpsE.ev (Ev.loadBlk (n := 2) (vs := tV L' last' x') H rfl (by kernel_rfl) rfl m0) rfl ?_
    refine OpsE.exn (Ex.storeBlk (n := 2) (vs := tV L' last' x') H rfl rfl (by kernel_rfl) rfl (tV_one _ _ _) (Upd.tail (Upd.skip (Upd.skip u0 A) B)) rfl (Thaw.zero _ _)) ?_; (try clear H); intro _ w H; replace H := H.drop
    refine OpsE.nil ?_
    repeat (first | refine RunsE.seq ?_ | refine RunsE.skip ?_ | refine RunsE.block ?_ | refine RunsE.inBlock ?_ | refine RunsE.yes rfl ?_ | refine RunsE.no rfl ?_ | refine RunsE.exit rfl ?_)
    refine RunsE.region ?_
    refine OpsE.ev (Ev.move rfl) rfl ?_
    refine OpsE.ev (Ev.move rfl) rfl ?_
    refine OpsE.ev (Ev.neq (r := false) rfl rfl (by simp)) rfl ?_
    refine OpsE.ev (Ev.move rfl) rfl ?_
    first | (refine OpsE.yes rfl rfl ?_; refine OpsE.ev (Ev.move rfl) rfl ?_) | refine OpsE.no rfl rfl rfl ?_ | refine OpsE.off rfl rfl rfl ?_
    first | (refine OpsE.yes rfl rfl ?_; refine OpsE.ex (Ex.call rfl Tryd.call9 (num_en _ w _ hE.right.tail.right.right H)) rfl ?_; (try clear H); rintro _ w ⟨rfl, H⟩) | refine OpsE.no rfl rfl rfl ?_ | refine OpsE.off rfl rfl rfl ?_
    first | (refine OpsE.yes rfl rfl ?_; refine OpsE.ev (Ev.move rfl) rfl ?_) | refine OpsE.no rfl rfl rfl ?_ | refine OpsE.off rfl rfl rfl ?_
    first | (refine OpsE.yes rfl rfl ?_; refine OpsE.ev (Ev.neq (r := false) rfl rfl (by simp)) rfl ?_) | refine OpsE.no rfl rfl rfl ?_ | refine OpsE.off rfl rfl rfl ?_
    refine OpsE.ev ((by first | exact Ev.pickT rfl rfl | exact Ev.pickF rfl rfl)) rfl ?_
    refine OpsE.nil ?_
    repeat (first | refine RunsE.seq ?_ | refine RunsE.skip ?_ | refine RunsE.block ?_ | refine RunsE.inBlock ?_ | refine RunsE.yes rfl ?_ | refine RunsE.no rfl ?_ | refine RunsE.exit rfl ?_)
    refine RunsE.region ?_
    refine OpsE.ev (Ev.move rfl) rfl ?_
    refine OpsE.ev (Ev.add rfl rfl) rfl ?_
    refine OpsE.ev (Ev.assign rfl) rfl ?_
    refine OpsE.nil ?_
    refine nextL (i + 1) _ _ (by omega) ⟨by omega, .of ⟨ys, L', last', x', A, B ++ D, hA, hQ', by omega, by rw [List.append_assoc]; exact hR, ?_⟩⟩ ⟨rfl, rfl, rfl, rfl, rfl, trivial⟩
    refine H.perm ?_
    rw [List.append_assoc]
    exact (List.perm_middle.symm.append_left A).trans (perm_in A B _)
  clear HP
  rintro _ w HP
  obtain ⟨xs, L, last, x, A, D, hA, hQ, hlk, hR, H⟩ := HP.ex
  have hxl := hQ.perm.length_eq
  have hLl := hQ.len
  repeat (first | refine RunsE.seq ?_ | refine RunsE.skip ?_ | refine RunsE.block ?_ | refine RunsE.inBlock ?_ | refine RunsE.yes rfl ?_ | refine RunsE.no rfl ?_ | refine RunsE.exit rfl ?_)
  refine RunsE.drawS H [] (by kernel_rfl) ?_; (try clear H); intro w H
  refine OpsD.take 0 rfl (by kernel_rfl) (by first | exact H | exact H.drop | exact H.drop.drop | exact H.dropL | exact H.drop.dropL | exact H.dropL.drop | exact H.dropL.dropL | exact H.dropMid) (fun w H => Ev.move rfl) rfl ?_
  refine OpsD.take 2 rfl (by kernel_rfl) (by first | exact H | exact H.drop | exact H.drop.drop | exact H.dropL | exact H.drop.dropL | exact H.dropL.drop | exact H.dropL.dropL | exact H.dropMid) (fun w H => Ev.fieldAddr (o := 0) rfl (by kernel_rfl)) rfl ?_
  refine OpsD.take 3 rfl (by kernel_rfl) (by first | exact H | exact H.drop | exact H.drop.drop | exact H.dropL | exact H.drop.dropL | exact H.dropL.drop | exact H.dropL.dropL | exact H.dropMid) (fun w H => Ev.load H rfl (by kernel_rfl) (Rd.right (Rd.mk m0 rfl))) rfl ?_
  refine OpsD.one 1 (by kernel_rfl) (StepD.ex rfl (Ex.call rfl Tryd.call11 (events_spec b xs last (by omega) (fun e he => hQ.due e (hQ.perm.subset he)) A w _ hA H)) rfl ?_); (try clear H); rintro _ w ⟨out, B, hs, hp, hso, H⟩; obtain rfl := hQ.events hp hso; obtain ⟨ae, ce, rfl⟩ := hs.len; refine ⟨(by first | exact H | exact H.drop | exact H.drop.drop | exact H.dropL | exact H.drop.dropL | exact H.dropL.drop | exact H.dropL.dropL | exact H.dropMid), ?_⟩
  refine OpsD.one 4 (by kernel_rfl) (StepD.ex rfl (Ex.call rfl Tryd.call10 (evs_spec out _ _ (by omega) w _ (hs.rdS fun _ => rfl) (hR.sub fun p hp => List.mem_append_right _ (List.mem_append_right _ (.tail _ hp))) H)) rfl ?_); (try clear H); rintro _ w ⟨rfl, H⟩; refine ⟨(by first | exact H | exact H.drop | exact H.drop.drop | exact H.dropL | exact H.drop.dropL | exact H.dropL.drop | exact H.dropL.dropL | exact H.dropMid), ?_⟩
  refine OpsD.take 5 rfl (by kernel_rfl) (by first | exact H | exact H.drop | exact H.drop.drop | exact H.dropL | exact H.drop.dropL | exact H.dropL.drop | exact H.dropL.dropL | exact H.dropMid) (fun w H => Ev.move rfl) rfl ?_
  first | (refine OpsD.one 6 (by kernel_rfl) (StepD.exYes rfl rfl rfl (Ex.call rfl Tryd.call12 (sure_spec w _ H)) rfl ?_); (try clear H); rintro _ w ⟨rfl, H⟩; refine ⟨(by first | exact H | exact H.drop | exact H.drop.drop | exact H.dropL | exact H.drop.dropL | exact H.dropL.drop | exact H.dropL.dropL | exact H.dropMid), ?_⟩) | refine OpsD.takeNo 6 rfl (by kernel_rfl) rfl rfl H rfl ?_ | refine OpsD.takeOff 6 rfl (by kernel_rfl) rfl rfl H rfl ?_
  refine OpsD.take 7 rfl (by kernel_rfl) (by first | exact H | exact H.drop | exact H.drop.drop | exact H.dropL | exact H.drop.dropL | exact H.dropL.drop | exact H.dropL.dropL | exact H.dropMid) (fun w H => (by first | exact Ev.pickT rfl rfl | exact Ev.pickF rfl rfl)) rfl ?_
  refine OpsD.take 8 rfl (by kernel_rfl) (by first | exact H | exact H.drop | exact H.drop.drop | exact H.dropL | exact H.drop.dropL | exact H.dropL.drop | exact H.dropL.dropL | exact H.dropMid) (fun w H => Ev.assign rfl) rfl ?_
  refine OpsD.done (by kernel_rfl) ?_
  repeat (first | refine RunsE.seq ?_ | refine RunsE.skip ?_ | refine RunsE.block ?_ | refine RunsE.inBlock ?_ | refine RunsE.yes rfl ?_ | refine RunsE.no rfl ?_ | refine RunsE.exit rfl ?_)
  exact RunsE.ret1 Tryd.func3 rfl rfl ⟨rfl, H.dropL.dropL.drop.dropL⟩

end Go.Proofs.YtgeocehgobcdjaaDoor
