/-
  The document's store of pages: done, Sync, Start, Read.
-/
import Derived.Test.YtoiehgiokfnmkaaDoorPagesRef2
namespace Go.Proofs.YtoiehgiokfnmkaaDoor.V

theorem setl_congr {k k' : Nat → Bool} {Q : List (Nat × List UInt8)} {P : List (List UInt8)} : ∀ n, (∀ i, i < n → k i = k' i) → setl k Q P n = setl k' Q P n
  | 0, _ => rfl
  | n + 1, h => by
    unfold setl
    rw [h n (by omega), setl_congr n fun i hi => h i (by omega)]

theorem settle_congr {s : St} {k k' : Nat → Bool} (h : ∀ i, i < s.Q.length → k i = k' i) : s.settle k = s.settle k' := by
  unfold St.settle
  rw [setl_congr _ h]

theorem take_contains {zs : List Int} {k : Nat} {z i : Int} (h : zs[k]? = some z) : (zs.take (k + 1)).contains i = ((zs.take k).contains i || z == i) := by
  rw [List.take_add_one, h]
  rw [Bool.eq_iff_iff]
  simp only [Option.toList_some, List.contains_iff_mem, List.mem_append, List.mem_singleton, Bool.or_eq_true, beq_iff_eq]
  constructor
  · rintro (h | h)
    · exact .inl h
    · exact .inr h.symm
  · rintro (h | h)
    · exact .inl h
    · exact .inr h.symm

end Go.Proofs.YtoiehgiokfnmkaaDoor.V
namespace Go.Proofs.YtoiehgiokfnmkaaDoor
open Go.Proofs.YtoiehgiokfnmkaaDoor.V

set_option maxHeartbeats 1000000 in
theorem rdone_spec [Strm] (s : St) (x : RX) (zs : List Int) (v : Value) (hz : zs.length ≤ 9223372036854775807) (hQl : s.Q.length ≤ 1000000) (w : World) (X G : List (Nat × Obj)) (hG : ∀ p ∈ G, p ∈ X) (hR : RefIn G s x) (hv : IntsIn .i64 X v zs) (H : SL w X) :
    Does Tryd.prog 33 #[RVal s x, v] w fun r w' => ∃ B x', r = RVal (s.settle fun i : Nat => zs.contains (i : Int)) x' ∧ RefIn (B ++ G) (s.settle fun i : Nat => zs.contains (i : Int)) x' ∧ SL w' (B ++ X) := by
  obtain ⟨av, cv, rfl, hcv⟩ := hv.len
  obtain ⟨ok, ⟨us, hus, hub⟩, ql, hqr, hqi⟩ := hR
  obtain ⟨_, _, el, hpc⟩ := hus.len
  cases el
  have hql := hqi.len
  have hul := hub.len
  have hpg := ok.pages
  obtain ⟨kept, hkept⟩ : ∃ kept : Nat → Bool, kept = fun i : Nat => zs.contains (i : Int) := ⟨_, rfl⟩
  rw [← hkept]
  refine Does.intro (args := [_, _]) (e := [(0, _), (1, _)]) Tryd.func33 rfl Tryd.ntmps33 rfl rfl ?_
  repeat (first | refine RunsE.seq ?_ | refine RunsE.skip ?_ | refine RunsE.block ?_ | refine RunsE.inBlock ?_ | refine RunsE.yes rfl ?_ | refine RunsE.no rfl ?_ | refine RunsE.exit rfl ?_)
  repeat (first | refine RunsE.seq ?_ | refine RunsE.skip ?_ | refine RunsE.block ?_ | refine RunsE.inBlock ?_ | refine RunsE.yes rfl ?_ | refine RunsE.no rfl ?_ | refine RunsE.exit rfl ?_)
  refine RunsE.region ?_
  refine OpsE.ex (Ex.box H rfl) rfl ?_; (try clear H); rintro _ w ⟨b2, rfl, H⟩; simp only [Value.cells] at H
  refine OpsE.ex (Ex.alloc (zv := .agg #[.slice none 0 0, .slice none 0 0, .int .i64 0, .bool false]) H (by kernel_rfl)) rfl ?_; (try clear H); rintro _ w ⟨b4, rfl, H⟩; simp only [Value.cells] at H
  refine OpsE.nil ?_
  repeat (first | refine RunsE.seq ?_ | refine RunsE.skip ?_ | refine RunsE.block ?_ | refine RunsE.inBlock ?_ | refine RunsE.yes rfl ?_ | refine RunsE.no rfl ?_ | refine RunsE.exit rfl ?_)
  refine RunsE.region ?_
  refine OpsE.ev (Ev.assign rfl) rfl ?_
  refine OpsE.nil ?_
  repeat (first | refine RunsE.seq ?_ | refine RunsE.skip ?_ | refine RunsE.block ?_ | refine RunsE.inBlock ?_ | refine RunsE.yes rfl ?_ | refine RunsE.no rfl ?_ | refine RunsE.exit rfl ?_)
  refine RunsE.region ?_
  refine OpsE.ev (Ev.move rfl) rfl ?_
  refine OpsE.ev (Ev.fieldAddr (o := 0) rfl (by kernel_rfl)) rfl ?_
  refine OpsE.ev (Ev.load (v := .slice x.pa s.P.length x.pc) H rfl (by kernel_rfl) (Rd.mk m1 rfl)) rfl ?_
  refine OpsE.ex (Ex.append (T := 24) (g := gS) (by_ := 24) (zv := .slice none 0 0) (xs := []) (ys := us) (B := []) H rfl rfl .nil (by rw [hul]; exact (hus.sub fun y hy => .tail _ (.tail _ (hG y hy))).src H) (fun _ => rfl) (by simp [Value.oneCell']) (by kernel_rfl) (by kernel_rfl) (by kernel_rfl) (by kernel_rfl) rfl (by simp only [List.length_nil]; omega) (by simp only [List.length_nil]; omega)) rfl ?_; (try clear H); rintro v' w ⟨B, hs, H⟩; rw [List.nil_append] at hs; obtain ⟨a5, c5, hv'⟩ := hs.len; rw [hul] at hv'; subst hv'
  refine OpsE.ev (Ev.assign rfl) rfl ?_
  refine OpsE.nil ?_
  repeat (first | refine RunsE.seq ?_ | refine RunsE.skip ?_ | refine RunsE.block ?_ | refine RunsE.inBlock ?_ | refine RunsE.yes rfl ?_ | refine RunsE.no rfl ?_ | refine RunsE.exit rfl ?_)
  refine RunsE.region ?_
  refine OpsE.ev (Ev.assign rfl) rfl ?_
  refine OpsE.nil ?_
  repeat refine RunsE.seq ?_
  refine RunsE.join (fun _ : Unit => [(2, .pointer (some ⟨b2, 0, none⟩)), (4, .pointer (some ⟨b4, 0, none⟩)), (5, .slice a5 s.P.length c5)])
    (fun _ w => ∃ us B, Slc gS 1 24 (.slice a5 s.P.length c5) us B ∧ BytesIn G us (setl kept s.Q s.P s.Q.length) ∧ SL w (B ++ ((b4, .cells #[.slice none 0 0, .slice none 0 0, .int .i64 0, .bool false] 41 (0, 0)) :: (b2, .cells (refV s x).toArray 41 (0, 0)) :: X))) (fun next => ?_) ?_
  · refine RunsE.block ?_
    refine RunsE.loop (fun i : Nat => [(1, .slice av zs.length cv), (2, .pointer (some ⟨b2, 0, none⟩)), (4, .pointer (some ⟨b4, 0, none⟩)), (5, .slice a5 s.P.length c5), (6, .int .i64 (i : Int))])
      (fun i w => i ≤ s.Q.length ∧ ∃ us B, Slc gS 1 24 (.slice a5 s.P.length c5) us B ∧ BytesIn G us (setl kept s.Q s.P i) ∧ SL w (B ++ ((b4, .cells #[.slice none 0 0, .slice none 0 0, .int .i64 0, .bool false] 41 (0, 0)) :: (b2, .cells (refV s x).toArray 41 (0, 0)) :: X)))
      (fun i => s.Q.length - i) 0 ⟨rfl, rfl, rfl, rfl, rfl, trivial⟩ ⟨by omega, us, B, hs, hub, H⟩ ?_
    clear H hs B hub hus hul us
    rintro i w ⟨hi, us, B, hs, hub, H⟩ nextL
    by_cases h1 : i = s.Q.length
    ·
      repeat (first | refine RunsE.seq ?_ | refine RunsE.skip ?_ | refine RunsE.block ?_ | refine RunsE.inBlock ?_ | refine RunsE.yes rfl ?_ | refine RunsE.no rfl ?_ | refine RunsE.exit rfl ?_)
      refine RunsE.region ?_
      refine OpsE.ev (Ev.move rfl) rfl ?_
      refine OpsE.ev (Ev.fieldAddr (o := 1) rfl (by kernel_rfl)) rfl ?_
      refine OpsE.ev (Ev.load (v := .slice x.la s.Q.length x.lc) H rfl (by kernel_rfl) (Rd.right (Rd.mk m1 rfl))) rfl ?_
      refine OpsE.ev (Ev.lenSl (d := 74) rfl rfl (by kernel_rfl)) rfl ?_
      refine OpsE.ev (Ev.lss (r := false) rfl rfl (decide_eq_false (by omega))) rfl ?_
      refine OpsE.nil ?_
      repeat refine RunsE.seq ?_
      refine RunsE.no rfl ?_
      refine RunsE.exit rfl ?_
      rw [h1] at hub
      exact next () _ _ ⟨us, B, hs, hub, H⟩ ⟨rfl, rfl, rfl, trivial⟩
    clear next
    obtain ⟨q, hq1⟩ : ∃ q, ql[i]? = some q := ⟨ql[i]'(by omega), by simp [show i < ql.length by omega]⟩
    obtain ⟨hq2, hq3⟩ := hqi.el i q hq1
    have hqm : s.Q.getD i (0, []) ∈ s.Q := getD_mem (by omega)
    have hqp := ok.qpg _ hqm
    rw [← hq2] at hqp
    obtain ⟨la, lc, hla⟩ : ∃ la lc, la = x.la ∧ lc = x.lc := ⟨_, _, rfl, rfl⟩
    obtain ⟨bq, oq, eq, hqrd⟩ := hqr.at (by omega)
    have hr0 := hqrd (i * 2 + 0) _ (by have := queue_at (sp := []) hq1 0 _ rfl; rw [List.append_nil] at this; exact this)
    have hr1 := hqrd (i * 2 + 1) _ (by have := queue_at (sp := []) hq1 1 _ rfl; rw [List.append_nil] at this; exact this)
    have hup : ∀ {A : Addr} {u : Value}, Rd G A u → Rd (B ++ ((b4, .cells #[.slice none 0 0, .slice none 0 0, .int .i64 0, .bool false] 41 (0, 0)) :: (b2, .cells (refV s x).toArray 41 (0, 0)) :: X)) A u := fun h => Rd.right (Rd.tail (Rd.tail (h.sub hG)))
    repeat (first | refine RunsE.seq ?_ | refine RunsE.skip ?_ | refine RunsE.block ?_ | refine RunsE.inBlock ?_ | refine RunsE.yes rfl ?_ | refine RunsE.no rfl ?_ | refine RunsE.exit rfl ?_)
    refine RunsE.region ?_
    refine OpsE.ev (Ev.move rfl) rfl ?_
    refine OpsE.ev (Ev.fieldAddr (o := 1) rfl (by kernel_rfl)) rfl ?_
    refine OpsE.ev (Ev.load (v := .slice x.la s.Q.length x.lc) H rfl (by kernel_rfl) (Rd.right (Rd.mk m1 rfl))) rfl ?_
    refine OpsE.ev (Ev.lenSl (d := 74) rfl rfl (by kernel_rfl)) rfl ?_
    refine OpsE.ev (Ev.lss (r := true) rfl rfl (decide_eq_true (by omega))) rfl ?_
    refine OpsE.nil ?_
    repeat (first | refine RunsE.seq ?_ | refine RunsE.skip ?_ | refine RunsE.block ?_ | refine RunsE.inBlock ?_ | refine RunsE.yes rfl ?_ | refine RunsE.no rfl ?_ | refine RunsE.exit rfl ?_)
    repeat (first | refine RunsE.seq ?_ | refine RunsE.skip ?_ | refine RunsE.block ?_ | refine RunsE.inBlock ?_ | refine RunsE.yes rfl ?_ | refine RunsE.no rfl ?_ | refine RunsE.exit rfl ?_)
    refine RunsE.region ?_
    refine OpsE.ev (Ev.assign rfl) rfl ?_
    refine OpsE.nil ?_
    repeat (first | refine RunsE.seq ?_ | refine RunsE.skip ?_ | refine RunsE.block ?_ | refine RunsE.inBlock ?_ | refine RunsE.yes rfl ?_ | refine RunsE.no rfl ?_ | refine RunsE.exit rfl ?_)
    refine RunsE.region ?_
    refine OpsE.ev (Ev.assign rfl) rfl ?_
    refine OpsE.nil ?_
    repeat refine RunsE.seq ?_
    refine RunsE.join (fun _ : Unit => [(1, .slice av zs.length cv), (2, .pointer (some ⟨b2, 0, none⟩)), (4, .pointer (some ⟨b4, 0, none⟩)), (5, .slice a5 s.P.length c5), (6, .int .i64 (i : Int)), (7, .bool (kept i))])
      (fun _ w => SL w (B ++ ((b4, .cells #[.slice none 0 0, .slice none 0 0, .int .i64 0, .bool false] 41 (0, 0)) :: (b2, .cells (refV s x).toArray 41 (0, 0)) :: X))) (fun next => ?_) ?_
    · refine RunsE.block ?_
      refine RunsE.loop (fun k : Nat × Bool => [(1, .slice av zs.length cv), (2, .pointer (some ⟨b2, 0, none⟩)), (4, .pointer (some ⟨b4, 0, none⟩)), (5, .slice a5 s.P.length c5), (6, .int .i64 (i : Int)), (7, .bool k.2), (8, .int .i64 (k.1 : Int))])
        (fun k w => k.1 ≤ zs.length ∧ k.2 = (zs.take k.1).contains (i : Int) ∧ SL w (B ++ ((b4, .cells #[.slice none 0 0, .slice none 0 0, .int .i64 0, .bool false] 41 (0, 0)) :: (b2, .cells (refV s x).toArray 41 (0, 0)) :: X)))
        (fun k => zs.length - k.1) (0, false) ⟨rfl, rfl, rfl, rfl, rfl, rfl, rfl, trivial⟩ ⟨by simp only; omega, rfl, H⟩ ?_
      clear H
      rintro ⟨k, o⟩ w ⟨hk, ho, H⟩ nextK
      simp only at hk ho
      by_cases h2 : k = zs.length
      ·
        repeat (first | refine RunsE.seq ?_ | refine RunsE.skip ?_ | refine RunsE.block ?_ | refine RunsE.inBlock ?_ | refine RunsE.yes rfl ?_ | refine RunsE.no rfl ?_ | refine RunsE.exit rfl ?_)
        refine RunsE.region ?_
        refine OpsE.ev (Ev.move rfl) rfl ?_
        refine OpsE.ev (Ev.move rfl) rfl ?_
        refine OpsE.ev (Ev.lenSl (d := 3) rfl rfl (by kernel_rfl)) rfl ?_
        refine OpsE.ev (Ev.lss (r := false) rfl rfl (decide_eq_false (by simp only; omega))) rfl ?_
        refine OpsE.nil ?_
        repeat refine RunsE.seq ?_
        refine RunsE.no rfl ?_
        refine RunsE.exit rfl ?_
        rw [h2, List.take_length] at ho
        rw [ho, show zs.contains (i : Int) = kept i by rw [hkept]]
        exact next () _ _ H ⟨rfl, rfl, rfl, rfl, rfl, rfl, trivial⟩
      clear next
      obtain ⟨z, hz1⟩ : ∃ z, zs[k]? = some z := ⟨zs[k]'(by omega), by simp [show k < zs.length by omega]⟩
      obtain ⟨bz, oz, _, rfl, hzr, rfl, _⟩ := hv.at hz1
      have ht := take_contains (i := (i : Int)) hz1
      repeat (first | refine RunsE.seq ?_ | refine RunsE.skip ?_ | refine RunsE.block ?_ | refine RunsE.inBlock ?_ | refine RunsE.yes rfl ?_ | refine RunsE.no rfl ?_ | refine RunsE.exit rfl ?_)
      refine RunsE.region ?_
      refine OpsE.ev (Ev.move rfl) rfl ?_
      refine OpsE.ev (Ev.move rfl) rfl ?_
      refine OpsE.ev (Ev.lenSl (d := 3) rfl rfl (by kernel_rfl)) rfl ?_
      refine OpsE.ev (Ev.lss (r := true) rfl rfl (decide_eq_true (by simp only; omega))) rfl ?_
      refine OpsE.nil ?_
      repeat (first | refine RunsE.seq ?_ | refine RunsE.skip ?_ | refine RunsE.block ?_ | refine RunsE.inBlock ?_ | refine RunsE.yes rfl ?_ | refine RunsE.no rfl ?_ | refine RunsE.exit rfl ?_)
      cases o with
      | true =>
        repeat (first | refine RunsE.seq ?_ | refine RunsE.skip ?_ | refine RunsE.block ?_ | refine RunsE.inBlock ?_ | refine RunsE.yes rfl ?_ | refine RunsE.no rfl ?_ | refine RunsE.exit rfl ?_)
        refine RunsE.region ?_
        refine OpsE.ev (Ev.move rfl) rfl ?_
        refine OpsE.ev (Ev.move rfl) rfl ?_
        first | (refine OpsE.yes rfl rfl ?_; refine OpsE.ev (Ev.move rfl) rfl ?_) | refine OpsE.no rfl rfl rfl ?_ | refine OpsE.off rfl rfl rfl ?_
        first | (refine OpsE.yes rfl rfl ?_; refine OpsE.ev (Ev.move rfl) rfl ?_) | refine OpsE.no rfl rfl rfl ?_ | refine OpsE.off rfl rfl rfl ?_
        first | (refine OpsE.yes rfl rfl ?_; refine OpsE.ev (Ev.iaSl (n := 3) (sz := 1) rfl rfl rfl (by kernel_rfl) (by omega)) rfl ?_) | refine OpsE.no rfl rfl rfl ?_ | refine OpsE.off rfl rfl rfl ?_
        first | (refine OpsE.yes rfl rfl ?_; refine OpsE.ev (Ev.load H rfl (by kernel_rfl) (by first | exact Rd.mk m0 rfl | exact Rd.mk m1 rfl | exact Rd.mk m2 rfl | exact Rd.mk m3 rfl | assumption)) rfl ?_) | refine OpsE.no rfl rfl rfl ?_ | refine OpsE.off rfl rfl rfl ?_
        first | (refine OpsE.yes rfl rfl ?_; refine OpsE.ev (Ev.move rfl) rfl ?_) | refine OpsE.no rfl rfl rfl ?_ | refine OpsE.off rfl rfl rfl ?_
        first | (refine OpsE.yes rfl rfl ?_; refine OpsE.ev (Ev.eql rfl rfl) rfl ?_) | refine OpsE.no rfl rfl rfl ?_ | refine OpsE.off rfl rfl rfl ?_
        refine OpsE.ev ((by first | exact Ev.pickT rfl rfl | exact Ev.pickF rfl rfl)) rfl ?_
        refine OpsE.ev (Ev.assign rfl) rfl ?_
        refine OpsE.nil ?_
        repeat (first | refine RunsE.seq ?_ | refine RunsE.skip ?_ | refine RunsE.block ?_ | refine RunsE.inBlock ?_ | refine RunsE.yes rfl ?_ | refine RunsE.no rfl ?_ | refine RunsE.exit rfl ?_)
        refine RunsE.region ?_
        refine OpsE.ev (Ev.move rfl) rfl ?_
        refine OpsE.ev (Ev.add rfl rfl) rfl ?_
        refine OpsE.ev (Ev.assign rfl) rfl ?_
        refine OpsE.nil ?_
        refine nextK (k + 1, true) _ _ (by simp only; omega) ⟨by simp only; omega, ?_, H⟩ ⟨rfl, rfl, rfl, rfl, rfl, rfl, rfl, trivial⟩
        simp only
        rw [ht, ← ho]
        rfl
      | false =>
        repeat (first | refine RunsE.seq ?_ | refine RunsE.skip ?_ | refine RunsE.block ?_ | refine RunsE.inBlock ?_ | refine RunsE.yes rfl ?_ | refine RunsE.no rfl ?_ | refine RunsE.exit rfl ?_)
        refine RunsE.region ?_
        refine OpsE.ev (Ev.move rfl) rfl ?_
        refine OpsE.ev (Ev.move rfl) rfl ?_
        first | (refine OpsE.yes rfl rfl ?_; refine OpsE.ev (Ev.move rfl) rfl ?_) | refine OpsE.no rfl rfl rfl ?_ | refine OpsE.off rfl rfl rfl ?_
        first | (refine OpsE.yes rfl rfl ?_; refine OpsE.ev (Ev.move rfl) rfl ?_) | refine OpsE.no rfl rfl rfl ?_ | refine OpsE.off rfl rfl rfl ?_
        first | (refine OpsE.yes rfl rfl ?_; refine OpsE.ev (Ev.iaSl (n := 3) (sz := 1) (m := k) (o := oz + k) rfl rfl rfl (by kernel_rfl) (by omega) (by omega)) rfl ?_) | refine OpsE.no rfl rfl rfl ?_ | refine OpsE.off rfl rfl rfl ?_
        first | (refine OpsE.yes rfl rfl ?_; refine OpsE.ev (Ev.load H rfl (by kernel_rfl) (Rd.right (Rd.tail (Rd.tail hzr)))) rfl ?_) | refine OpsE.no rfl rfl rfl ?_ | refine OpsE.off rfl rfl rfl ?_
        first | (refine OpsE.yes rfl rfl ?_; refine OpsE.ev (Ev.move rfl) rfl ?_) | refine OpsE.no rfl rfl rfl ?_ | refine OpsE.off rfl rfl rfl ?_
        first | (refine OpsE.yes rfl rfl ?_; refine OpsE.ev (Ev.eql (r := z == (i : Int)) rfl rfl rfl) rfl ?_) | refine OpsE.no rfl rfl rfl ?_ | refine OpsE.off rfl rfl rfl ?_
        refine OpsE.ev ((by first | exact Ev.pickT rfl rfl | exact Ev.pickF rfl rfl)) rfl ?_
        refine OpsE.ev (Ev.assign rfl) rfl ?_
        refine OpsE.nil ?_
        repeat (first | refine RunsE.seq ?_ | refine RunsE.skip ?_ | refine RunsE.block ?_ | refine RunsE.inBlock ?_ | refine RunsE.yes rfl ?_ | refine RunsE.no rfl ?_ | refine RunsE.exit rfl ?_)
        refine RunsE.region ?_
        refine OpsE.ev (Ev.move rfl) rfl ?_
        refine OpsE.ev (Ev.add rfl rfl) rfl ?_
        refine OpsE.ev (Ev.assign rfl) rfl ?_
        refine OpsE.nil ?_
        refine nextK (k + 1, z == (i : Int)) _ _ (by simp only; omega) ⟨by simp only; omega, ?_, H⟩ ⟨rfl, rfl, rfl, rfl, rfl, rfl, rfl, trivial⟩
        simp only
        rw [ht, ← ho]
        rfl
    clear H
    rintro _ w H
    repeat (first | refine RunsE.seq ?_ | refine RunsE.skip ?_ | refine RunsE.block ?_ | refine RunsE.inBlock ?_ | refine RunsE.yes rfl ?_ | refine RunsE.no rfl ?_ | refine RunsE.exit rfl ?_)
    refine RunsE.region ?_
    refine OpsE.ev (Ev.move rfl) rfl ?_
    refine OpsE.nil ?_
    by_cases hki : kept i = true
    · repeat refine RunsE.seq ?_
      refine RunsE.yes (by rw [hki]; rfl) ?_
      obtain ⟨b5, cap, sp, fr, e5, rfl, hb1, hb2, hb3⟩ := hs.shape (by have := hub.len; rw [setl_len] at this; omega)
      have hul := hub.len
      rw [setl_len] at hul
      rw [hul] at e5
      cases e5
      have hfl := flatMap_length (g := gS) (sz := 1) (fun _ => rfl) us
      repeat (first | refine RunsE.seq ?_ | refine RunsE.skip ?_ | refine RunsE.block ?_ | refine RunsE.inBlock ?_ | refine RunsE.yes rfl ?_ | refine RunsE.no rfl ?_ | refine RunsE.exit rfl ?_)
      refine RunsE.drawS H [14] (by kernel_rfl) ?_; (try clear H); intro w H
      refine OpsD.take 0 rfl (by kernel_rfl) (by first | exact H | exact H.drop | exact H.drop.drop | exact H.dropL | exact H.drop.dropL | exact H.dropL.dropL) (fun w H => Ev.move rfl) rfl ?_
      refine OpsD.take 1 rfl (by kernel_rfl) (by first | exact H | exact H.drop | exact H.drop.drop | exact H.dropL | exact H.drop.dropL | exact H.dropL.dropL) (fun w H => Ev.fieldAddr (o := 1) rfl (by kernel_rfl)) rfl ?_
      refine OpsD.take 2 rfl (by kernel_rfl) (by first | exact H | exact H.drop | exact H.drop.drop | exact H.dropL | exact H.drop.dropL | exact H.dropL.dropL) (fun w H => Ev.load (v := .slice (some ⟨bq, oq, none⟩) s.Q.length x.lc) H rfl (by kernel_rfl) (Rd.right (Rd.mk m1 (by rw [← eq]; rfl)))) rfl ?_
      refine OpsD.take 3 rfl (by kernel_rfl) (by first | exact H | exact H.drop | exact H.drop.drop | exact H.dropL | exact H.drop.dropL | exact H.dropL.dropL) (fun w H => Ev.move rfl) rfl ?_
      refine OpsD.take 4 rfl (by kernel_rfl) (by first | exact H | exact H.drop | exact H.drop.drop | exact H.dropL | exact H.drop.dropL | exact H.dropL.dropL) (fun w H => Ev.iaSl (n := 74) (sz := 2) (m := i) (o := oq + (i * 2 + 0)) rfl rfl rfl (by kernel_rfl) (by omega) (by omega)) rfl ?_
      refine OpsD.take 5 rfl (by kernel_rfl) (by first | exact H | exact H.drop | exact H.drop.drop | exact H.dropL | exact H.drop.dropL | exact H.dropL.dropL) (fun w H => Ev.fieldAddr (o := 0) rfl (by kernel_rfl)) rfl ?_
      refine OpsD.take 6 rfl (by kernel_rfl) (by first | exact H | exact H.drop | exact H.drop.drop | exact H.dropL | exact H.drop.dropL | exact H.dropL.dropL) (fun w H => Ev.load H rfl (by kernel_rfl) (hup hr0)) rfl ?_
      refine OpsD.take 7 rfl (by kernel_rfl) (by first | exact H | exact H.drop | exact H.drop.drop | exact H.dropL | exact H.drop.dropL | exact H.dropL.dropL) (fun w H => Ev.fieldAddr (o := 1) rfl (by kernel_rfl)) rfl ?_
      refine OpsD.take 8 rfl (by kernel_rfl) (by first | exact H | exact H.drop | exact H.drop.drop | exact H.dropL | exact H.drop.dropL | exact H.dropL.dropL) (fun w H => Ev.load (v := .slice (some ⟨bq, oq, none⟩) s.Q.length x.lc) H rfl (by kernel_rfl) (Rd.right (Rd.mk m1 (by rw [← eq]; rfl)))) rfl ?_
      refine OpsD.take 9 rfl (by kernel_rfl) (by first | exact H | exact H.drop | exact H.drop.drop | exact H.dropL | exact H.drop.dropL | exact H.dropL.dropL) (fun w H => Ev.move rfl) rfl ?_
      refine OpsD.take 10 rfl (by kernel_rfl) (by first | exact H | exact H.drop | exact H.drop.drop | exact H.dropL | exact H.drop.dropL | exact H.dropL.dropL) (fun w H => Ev.iaSl (n := 74) (sz := 2) (m := i) (o := oq + (i * 2 + 0)) rfl rfl rfl (by kernel_rfl) (by omega) (by omega)) rfl ?_
      refine OpsD.take 11 rfl (by kernel_rfl) (by first | exact H | exact H.drop | exact H.drop.drop | exact H.dropL | exact H.drop.dropL | exact H.dropL.dropL) (fun w H => Ev.fieldAddr (o := 1) rfl (by kernel_rfl)) rfl ?_
      refine OpsD.take 12 rfl (by kernel_rfl) (by first | exact H | exact H.drop | exact H.drop.drop | exact H.dropL | exact H.drop.dropL | exact H.dropL.dropL) (fun w H => Ev.load H rfl (by kernel_rfl) (hup hr1)) rfl ?_
      refine OpsD.take 13 rfl (by kernel_rfl) (by first | exact H | exact H.drop | exact H.drop.drop | exact H.dropL | exact H.drop.dropL | exact H.dropL.dropL) (fun w H => Ev.iaSl (n := 24) (sz := 1) (m := q.1) rfl rfl rfl (by kernel_rfl) (by omega)) rfl ?_
      refine OpsD.one 14 (by kernel_rfl) (StepD.exnT rfl rfl (Ex.store1 H rfl rfl (by kernel_rfl) rfl u0 (by simp only [List.size_toArray, List.length_append, hfl]; omega) (hb3.sub (by omega)) (gS_set (us := us) (by omega) (q.2.1, q.2.2.1, q.2.2.2))) ?_); (try clear H); intro _ w H
      refine OpsD.done (by kernel_rfl) ?_
      repeat (first | refine RunsE.seq ?_ | refine RunsE.skip ?_ | refine RunsE.block ?_ | refine RunsE.inBlock ?_ | refine RunsE.yes rfl ?_ | refine RunsE.no rfl ?_ | refine RunsE.exit rfl ?_)
      refine RunsE.region ?_
      refine OpsE.ev (Ev.move rfl) rfl ?_
      refine OpsE.ev (Ev.add rfl rfl) rfl ?_
      refine OpsE.ev (Ev.assign rfl) rfl ?_
      refine OpsE.nil ?_
      refine nextL (i + 1) _ _ (by omega) ⟨by omega, us.set q.1 (q.2.1, q.2.2.1, q.2.2.2), [(b5, _)], ?_, ?_, H⟩ ⟨rfl, rfl, rfl, rfl, rfl, trivial⟩
      · have := Slc.blk (g := gS) (sz := 1) (T := 24) b5 (us.set q.1 (q.2.1, q.2.2.1, q.2.2.2)) c5 sp fr (by rw [List.length_set]; exact hb1) (by rw [List.length_set]; exact hb2) hb3
        rw [List.length_set, hul] at this
        exact this
      · simp only [setl, hki, if_true]
        rw [← hq2]
        exact hub.set hq3 (by rw [setl_len]; exact hqp)
    · repeat refine RunsE.seq ?_
      refine RunsE.no (by rw [Bool.not_eq_true _ |>.mp hki]; rfl) ?_
      refine RunsE.skip ?_
      repeat (first | refine RunsE.seq ?_ | refine RunsE.skip ?_ | refine RunsE.block ?_ | refine RunsE.inBlock ?_ | refine RunsE.yes rfl ?_ | refine RunsE.no rfl ?_ | refine RunsE.exit rfl ?_)
      refine RunsE.region ?_
      refine OpsE.ev (Ev.move rfl) rfl ?_
      refine OpsE.ev (Ev.add rfl rfl) rfl ?_
      refine OpsE.ev (Ev.assign rfl) rfl ?_
      refine OpsE.nil ?_
      refine nextL (i + 1) _ _ (by omega) ⟨by omega, us, B, hs, ?_, H⟩ ⟨rfl, rfl, rfl, rfl, rfl, trivial⟩
      simp only [setl, hki]
      exact hub
  clear H hs B hub hus hul us
  rintro _ w ⟨us, B, hs, hub, H⟩
  have hul := hub.len
  rw [setl_len] at hul
  have hPl : (s.settle kept).P.length = s.P.length := by simp only [St.settle, setl_len]
  have hQn : (s.settle kept).Q = [] := rfl
  repeat (first | refine RunsE.seq ?_ | refine RunsE.skip ?_ | refine RunsE.block ?_ | refine RunsE.inBlock ?_ | refine RunsE.yes rfl ?_ | refine RunsE.no rfl ?_ | refine RunsE.exit rfl ?_)
  refine RunsE.region ?_
  refine OpsE.ev (Ev.move rfl) rfl ?_
  refine OpsE.ev (Ev.fieldAddr (o := 0) rfl (by kernel_rfl)) rfl ?_
  refine OpsE.exn (Ex.store1 (cs' := #[.slice a5 s.P.length c5, .slice x.la s.Q.length x.lc, .int .i64 (stepsOf s), .bool s.down]) H rfl rfl (by kernel_rfl) rfl (Upd.skip u1 B) (by simp [refV]) (Thaw.zero _ _) rfl) ?_; (try clear H); intro _ w H
  refine OpsE.ev (Ev.fieldAddr (o := 1) rfl (by kernel_rfl)) rfl ?_
  refine OpsE.exn (Ex.store1 (cs' := #[.slice a5 s.P.length c5, .slice none 0 0, .int .i64 (stepsOf s), .bool s.down]) H rfl rfl (by kernel_rfl) rfl (Upd.skip u1 B) (by simp) (Thaw.zero _ _) rfl) ?_; (try clear H); intro _ w H
  refine OpsE.nil ?_
  repeat (first | refine RunsE.seq ?_ | refine RunsE.skip ?_ | refine RunsE.block ?_ | refine RunsE.inBlock ?_ | refine RunsE.yes rfl ?_ | refine RunsE.no rfl ?_ | refine RunsE.exit rfl ?_)
  refine RunsE.region ?_
  refine OpsE.ev (Ev.loadBlk (n := 4) H rfl (by kernel_rfl) rfl (List.mem_append_right B m1)) rfl ?_
  refine OpsE.exn (Ex.storeBlk (n := 4) H rfl rfl (by kernel_rfl) rfl (by simp [Value.oneCell']) (Upd.skip u0 B) rfl (Thaw.zero _ _)) ?_; (try clear H); intro _ w H
  refine OpsE.nil ?_
  repeat (first | refine RunsE.seq ?_ | refine RunsE.skip ?_ | refine RunsE.block ?_ | refine RunsE.inBlock ?_ | refine RunsE.yes rfl ?_ | refine RunsE.no rfl ?_ | refine RunsE.exit rfl ?_)
  refine RunsE.retBlk (m := 4) H Tryd.func33 rfl rfl (by kernel_rfl) rfl (List.mem_append_right B m0) ⟨B, ⟨a5, c5, none, 0⟩, ?_, ⟨St.settle_ok ok kept, ⟨us, ?_, ?_⟩, [], ?_, ?_⟩, H.dropMid.dropMid⟩
  · simp only [RVal, refV, hPl, hQn]
    rfl
  · rw [hPl]
    have := hs.rdS (L := G) fun _ => rfl
    rw [hul] at this
    exact this
  · exact hub.sub fun y hy => List.mem_append_right _ hy
  · exact .nil
  · exact ⟨rfl, fun i q h => by simp at h⟩

end Go.Proofs.YtoiehgiokfnmkaaDoor
