/-
  The document's queue: Cancel, Pop; two lists of events, one by one.
-/
import Derived.Test.YtgeocehgobcdjaaDoorTimerRef
namespace Go.Proofs.YtgeocehgobcdjaaDoor.V

theorem RefT.in {G : List (Nat × Obj)} {v : Value} {xs : List TEv} {k : Nat} {a : Option Addr} {n c : Nat} (h : RdS G 3 v xs.length (xs.flatMap gE)) (hv : v = .slice a n c) (hk : k < xs.length) : ∃ b off, a = some ⟨b, off, none⟩ ∧ ∀ (j : Nat) v, (gE (at' xs k))[j]? = some v → Rd G ⟨b, off + (k * 3 + j), none⟩ v := by
  obtain ⟨a', c', e, _⟩ := h.len
  rw [hv] at e h
  cases e
  exact RefT.at (x := ⟨a, c⟩) h hk

end Go.Proofs.YtgeocehgobcdjaaDoor.V
namespace Go.Proofs.YtgeocehgobcdjaaDoor
open Go.Proofs.YtgeocehgobcdjaaDoor.V

set_option maxHeartbeats 1000000 in
theorem rcancel_spec [Strm] (L : List TEv) (last : Nat) (x : TX) (id : Int) (hL : L.length ≤ 1000000) (w : World) (X G : List (Nat × Obj)) (hG : ∀ p ∈ G, p ∈ X) (hR : RefT G L x) (H : SL w X) :
    Does Tryd.prog 17 #[TVal L last x, .int .i64 id] w fun r w' => ∃ L2 B x', ((r = .tuple #[TVal L2 last x', .int .i64 8] ∧ L2 = L ∧ ∀ e ∈ L, (e.id : Int) ≠ id) ∨ (r = .tuple #[TVal L2 last x', .int .i64 0] ∧ L2 = L.filter (fun e => decide ((e.id : Int) ≠ id)) ∧ ∃ e ∈ L, (e.id : Int) = id)) ∧ RefT (B ++ G) L2 x' ∧ SL w' (B ++ X) := by
  obtain ⟨_, _, ex, hlc⟩ := RdS.len hR
  cases ex
  obtain ⟨p, hp⟩ : ∃ p : TEv → Bool, p = fun e => decide ((e.id : Int) ≠ id) := ⟨_, rfl⟩
  rw [← hp]
  refine Does.intro (args := [_, _]) (e := [(0, _), (1, _)]) Tryd.func17 rfl Tryd.ntmps17 rfl rfl ?_
  repeat (first | refine RunsE.seq ?_ | refine RunsE.skip ?_ | refine RunsE.block ?_ | refine RunsE.inBlock ?_ | refine RunsE.yes rfl ?_ | refine RunsE.no rfl ?_ | refine RunsE.exit rfl ?_)
  repeat (first | refine RunsE.seq ?_ | refine RunsE.skip ?_ | refine RunsE.block ?_ | refine RunsE.inBlock ?_ | refine RunsE.yes rfl ?_ | refine RunsE.no rfl ?_ | refine RunsE.exit rfl ?_)
  refine RunsE.region ?_
  refine OpsE.ex (Ex.box H rfl) rfl ?_; (try clear H); rintro _ w ⟨b2, rfl, H⟩; simp only [Value.cells] at H
  refine OpsE.ex (Ex.alloc (zv := .agg #[.slice none 0 0, .int .i64 0]) H (by kernel_rfl)) rfl ?_; (try clear H); rintro _ w ⟨b4, rfl, H⟩; simp only [Value.cells] at H
  refine OpsE.ev (Ev.assign rfl) rfl ?_
  refine OpsE.nil ?_
  repeat (first | refine RunsE.seq ?_ | refine RunsE.skip ?_ | refine RunsE.block ?_ | refine RunsE.inBlock ?_ | refine RunsE.yes rfl ?_ | refine RunsE.no rfl ?_ | refine RunsE.exit rfl ?_)
  refine RunsE.region ?_
  refine OpsE.ev (Ev.assign rfl) rfl ?_
  refine OpsE.nil ?_
  repeat (first | refine RunsE.seq ?_ | refine RunsE.skip ?_ | refine RunsE.block ?_ | refine RunsE.inBlock ?_ | refine RunsE.yes rfl ?_ | refine RunsE.no rfl ?_ | refine RunsE.exit rfl ?_)
  refine RunsE.region ?_
  refine OpsE.ev (Ev.assign rfl) rfl ?_
  refine OpsE.nil ?_
  repeat refine RunsE.seq ?_
  refine RunsE.join (fun v : Value => [(2, .pointer (some ⟨b2, 0, none⟩)), (4, .pointer (some ⟨b4, 0, none⟩)), (6, v)])
    (fun v w => ∃ B, Slc gE 3 58 v (L.filter p) B ∧ SL w (B ++ ((b4, .cells #[.slice none 0 0, .int .i64 0] 28 (0, 0)) :: (b2, .cells (tV L last x).toArray 28 (0, 0)) :: X))) (fun next => ?_) ?_
  · refine RunsE.block ?_
    refine RunsE.loop (fun s : Nat × Value => [(1, .int .i64 id), (2, .pointer (some ⟨b2, 0, none⟩)), (4, .pointer (some ⟨b4, 0, none⟩)), (6, s.2), (7, .int .i64 (s.1 : Int))])
      (fun s w => s.1 ≤ L.length ∧ ∃ B, Slc gE 3 58 s.2 ((L.take s.1).filter p) B ∧ SL w (B ++ ((b4, .cells #[.slice none 0 0, .int .i64 0] 28 (0, 0)) :: (b2, .cells (tV L last x).toArray 28 (0, 0)) :: X)))
      (fun s => L.length - s.1) (0, .slice none 0 0) ⟨rfl, rfl, rfl, rfl, rfl, trivial⟩ ⟨by simp only; omega, [], .nil, H⟩ ?_
    clear H
    rintro ⟨i, v⟩ w ⟨hi, B, hs, H⟩ nextL
    simp only at hi hs
    by_cases h1 : i = L.length
    ·
      repeat (first | refine RunsE.seq ?_ | refine RunsE.skip ?_ | refine RunsE.block ?_ | refine RunsE.inBlock ?_ | refine RunsE.yes rfl ?_ | refine RunsE.no rfl ?_ | refine RunsE.exit rfl ?_)
      refine RunsE.region ?_
      refine OpsE.ev (Ev.move rfl) rfl ?_
      refine OpsE.ev (Ev.fieldAddr (o := 0) rfl (by kernel_rfl)) rfl ?_
      refine OpsE.ev (Ev.load (v := .slice x.la L.length x.lc) H rfl (by kernel_rfl) (Rd.right (Rd.mk m1 rfl))) rfl ?_
      refine OpsE.ev (Ev.lenSl (d := 58) rfl rfl (by kernel_rfl)) rfl ?_
      refine OpsE.ev (Ev.lss (r := false) rfl rfl (decide_eq_false (by simp only; omega))) rfl ?_
      refine OpsE.nil ?_
      repeat refine RunsE.seq ?_
      refine RunsE.no rfl ?_
      refine RunsE.exit rfl ?_
      rw [h1, List.take_length] at hs
      exact next v _ _ ⟨B, hs, H⟩ ⟨rfl, rfl, rfl, trivial⟩
    clear next
    have hiL : i < L.length := by omega
    obtain ⟨bl, ol, el, hrd⟩ := hR.at hiL
    have hup : ∀ (j : Nat) v, (gE (at' L i))[j]? = some v → Rd (B ++ ((b4, .cells #[.slice none 0 0, .int .i64 0] 28 (0, 0)) :: (b2, .cells (tV L last x).toArray 28 (0, 0)) :: X)) ⟨bl, ol + (i * 3 + j), none⟩ v := fun j v hj => Rd.right (Rd.tail (Rd.tail ((hrd j v hj).sub hG)))
    have ht : (L.take (i + 1)).filter p = (L.take i).filter p ++ [at' L i].filter p := by rw [List.take_add_one, at_some hiL, List.filter_append]; rfl
    have hfl : ((L.take i).filter p).length ≤ 1000000 := by have := List.length_filter_le p (L.take i); rw [List.length_take] at this; omega
    repeat (first | refine RunsE.seq ?_ | refine RunsE.skip ?_ | refine RunsE.block ?_ | refine RunsE.inBlock ?_ | refine RunsE.yes rfl ?_ | refine RunsE.no rfl ?_ | refine RunsE.exit rfl ?_)
    refine RunsE.region ?_
    refine OpsE.ev (Ev.move rfl) rfl ?_
    refine OpsE.ev (Ev.fieldAddr (o := 0) rfl (by kernel_rfl)) rfl ?_
    refine OpsE.ev (Ev.load (v := .slice x.la L.length x.lc) H rfl (by kernel_rfl) (Rd.right (Rd.mk m1 rfl))) rfl ?_
    refine OpsE.ev (Ev.lenSl (d := 58) rfl rfl (by kernel_rfl)) rfl ?_
    refine OpsE.ev (Ev.lss (r := true) rfl rfl (decide_eq_true (by simp only; omega))) rfl ?_
    refine OpsE.nil ?_
    repeat (first | refine RunsE.seq ?_ | refine RunsE.skip ?_ | refine RunsE.block ?_ | refine RunsE.inBlock ?_ | refine RunsE.yes rfl ?_ | refine RunsE.no rfl ?_ | refine RunsE.exit rfl ?_)
    by_cases h2 : ((at' L i).id : Int) = id
    ·
      repeat (first | refine RunsE.seq ?_ | refine RunsE.skip ?_ | refine RunsE.block ?_ | refine RunsE.inBlock ?_ | refine RunsE.yes rfl ?_ | refine RunsE.no rfl ?_ | refine RunsE.exit rfl ?_)
      refine RunsE.region ?_
      refine OpsE.ev (Ev.fieldAddr (o := 0) rfl (by kernel_rfl)) rfl ?_
      refine OpsE.ev (Ev.load (v := .slice (some ⟨bl, ol, none⟩) L.length x.lc) H rfl (by kernel_rfl) (Rd.right (Rd.mk m1 (by rw [← el]; rfl)))) rfl ?_
      refine OpsE.ev (Ev.move rfl) rfl ?_
      refine OpsE.ev (Ev.iaSl (n := 58) (sz := 3) (m := i) (o := ol + i * 3) rfl rfl rfl (by kernel_rfl) (by omega)) rfl ?_
      refine OpsE.ev (Ev.fieldAddr (o := 0) (o' := ol + (i * 3 + 0)) rfl (by kernel_rfl) (by omega)) rfl ?_
      refine OpsE.ev (Ev.load H rfl (by kernel_rfl) (hup 0 _ rfl)) rfl ?_
      refine OpsE.ev (Ev.move rfl) rfl ?_
      refine OpsE.ev (Ev.neq (r := false) rfl rfl (bne_eq_false_iff_eq.2 h2)) rfl ?_
      refine OpsE.nil ?_
      repeat refine RunsE.seq ?_
      refine RunsE.no rfl ?_
      refine RunsE.skip ?_
      refine RunsE.inBlock ?_
      repeat (first | refine RunsE.seq ?_ | refine RunsE.skip ?_ | refine RunsE.block ?_ | refine RunsE.inBlock ?_ | refine RunsE.yes rfl ?_ | refine RunsE.no rfl ?_ | refine RunsE.exit rfl ?_)
      refine RunsE.region ?_
      refine OpsE.ev (Ev.move rfl) rfl ?_
      refine OpsE.ev (Ev.add rfl rfl) rfl ?_
      refine OpsE.ev (Ev.assign rfl) rfl ?_
      refine OpsE.nil ?_
      refine nextL (i + 1, v) _ _ (by simp only; omega) ⟨by simp only; omega, B, ?_, H⟩ ⟨rfl, rfl, rfl, rfl, rfl, trivial⟩
      have hpi : p (at' L i) = false := by rw [hp]; exact decide_eq_false fun h => h h2
      rw [ht, show [at' L i].filter p = [] by simp only [List.filter_cons, hpi]; rfl, List.append_nil]
      exact hs
    ·
      repeat (first | refine RunsE.seq ?_ | refine RunsE.skip ?_ | refine RunsE.block ?_ | refine RunsE.inBlock ?_ | refine RunsE.yes rfl ?_ | refine RunsE.no rfl ?_ | refine RunsE.exit rfl ?_)
      refine RunsE.region ?_
      refine OpsE.ev (Ev.fieldAddr (o := 0) rfl (by kernel_rfl)) rfl ?_
      refine OpsE.ev (Ev.load (v := .slice (some ⟨bl, ol, none⟩) L.length x.lc) H rfl (by kernel_rfl) (Rd.right (Rd.mk m1 (by rw [← el]; rfl)))) rfl ?_
      refine OpsE.ev (Ev.move rfl) rfl ?_
      refine OpsE.ev (Ev.iaSl (n := 58) (sz := 3) (m := i) (o := ol + i * 3) rfl rfl rfl (by kernel_rfl) (by omega)) rfl ?_
      refine OpsE.ev (Ev.fieldAddr (o := 0) (o' := ol + (i * 3 + 0)) rfl (by kernel_rfl) (by omega)) rfl ?_
      refine OpsE.ev (Ev.load H rfl (by kernel_rfl) (hup 0 _ rfl)) rfl ?_
      refine OpsE.ev (Ev.move rfl) rfl ?_
      refine OpsE.ev (Ev.neq (r := true) rfl rfl (bne_iff_ne.2 h2)) rfl ?_
      refine OpsE.nil ?_
      repeat refine RunsE.seq ?_
      refine RunsE.yes rfl ?_
      repeat (first | refine RunsE.seq ?_ | refine RunsE.skip ?_ | refine RunsE.block ?_ | refine RunsE.inBlock ?_ | refine RunsE.yes rfl ?_ | refine RunsE.no rfl ?_ | refine RunsE.exit rfl ?_)
      refine RunsE.region ?_
      refine OpsE.ev (Ev.move rfl) rfl ?_
      refine OpsE.ev (Ev.fieldAddr (o := 0) rfl (by kernel_rfl)) rfl ?_
      refine OpsE.ev (Ev.load (v := .slice (some ⟨bl, ol, none⟩) L.length x.lc) H rfl (by kernel_rfl) (Rd.right (Rd.mk m1 (by rw [← el]; rfl)))) rfl ?_
      refine OpsE.ev (Ev.move rfl) rfl ?_
      refine OpsE.ev (Ev.iaSl (n := 58) (sz := 3) (m := i) (o := ol + i * 3) rfl rfl rfl (by kernel_rfl) (by omega)) rfl ?_
      refine OpsE.ev (Ev.loadAgg (vs := gE (at' L i)) H rfl (by kernel_rfl) (fun j v hj => by rw [add_none, Nat.add_assoc]; exact hup j v hj)) rfl ?_
      refine OpsE.ex (Ex.buildSlP (len := 1) (sz := 3) (T := 58) (zv := zE) (cs := gE (at' L i)) H rfl (by kernel_rfl) (by kernel_rfl) rfl (by decide) (by decide)) rfl ?_; (try clear H); rintro _ w ⟨b29, rfl, H⟩
      refine OpsE.ex (Ex.append (T := 58) (g := gE) (sz := 3) (by_ := 32) (zv := zE) (xs := (L.take i).filter p) (ys := [at' L i]) H.drop rfl rfl hs (Src.row0 H m0 rfl) (fun _ => rfl) gE_one (by kernel_rfl) (by kernel_rfl) (by kernel_rfl) (by kernel_rfl) rfl (by simp only [List.length_singleton]; omega) (by simp only [List.length_singleton]; omega)) rfl ?_; (try clear H); rintro v' w ⟨B, hs, H⟩
      refine OpsE.ev (Ev.assign rfl) rfl ?_
      refine OpsE.nil ?_
      refine RunsE.inBlock ?_
      repeat (first | refine RunsE.seq ?_ | refine RunsE.skip ?_ | refine RunsE.block ?_ | refine RunsE.inBlock ?_ | refine RunsE.yes rfl ?_ | refine RunsE.no rfl ?_ | refine RunsE.exit rfl ?_)
      refine RunsE.region ?_
      refine OpsE.ev (Ev.move rfl) rfl ?_
      refine OpsE.ev (Ev.add rfl rfl) rfl ?_
      refine OpsE.ev (Ev.assign rfl) rfl ?_
      refine OpsE.nil ?_
      refine nextL (i + 1, v') _ _ (by simp only; omega) ⟨by simp only; omega, B, ?_, H⟩ ⟨rfl, rfl, rfl, rfl, rfl, trivial⟩
      have hpi : p (at' L i) = true := by rw [hp]; exact decide_eq_true h2
      rw [ht, show [at' L i].filter p = [at' L i] by simp only [List.filter_cons, hpi]; rfl]
      exact hs
  clear H
  rintro v w ⟨B, hs, H⟩
  obtain ⟨a', c', rfl⟩ := hs.len
  by_cases hall : ∀ e ∈ L, (e.id : Int) ≠ id
  · have hf : L.filter p = L := List.filter_eq_self.2 fun e he => by rw [hp]; exact decide_eq_true (hall e he)
    rw [hf]
    repeat (first | refine RunsE.seq ?_ | refine RunsE.skip ?_ | refine RunsE.block ?_ | refine RunsE.inBlock ?_ | refine RunsE.yes rfl ?_ | refine RunsE.no rfl ?_ | refine RunsE.exit rfl ?_)
    refine RunsE.region ?_
    refine OpsE.ev (Ev.move rfl) rfl ?_
    refine OpsE.ev (Ev.lenSl (d := 58) rfl rfl (by kernel_rfl)) rfl ?_
    refine OpsE.ev (Ev.fieldAddr (o := 0) rfl (by kernel_rfl)) rfl ?_
    refine OpsE.ev (Ev.load (v := .slice x.la L.length x.lc) H rfl (by kernel_rfl) (Rd.right (Rd.mk m1 rfl))) rfl ?_
    refine OpsE.ev (Ev.lenSl (d := 58) rfl rfl (by kernel_rfl)) rfl ?_
    refine OpsE.ev (Ev.eql (r := true) rfl rfl (by simp)) rfl ?_
    refine OpsE.nil ?_
    repeat (first | refine RunsE.seq ?_ | refine RunsE.skip ?_ | refine RunsE.block ?_ | refine RunsE.inBlock ?_ | refine RunsE.yes rfl ?_ | refine RunsE.no rfl ?_ | refine RunsE.exit rfl ?_)
    refine RunsE.region ?_
    refine OpsE.ev (Ev.loadBlk (n := 2) (vs := tV L last x) H rfl (by kernel_rfl) rfl (List.mem_append_right B m1)) rfl ?_
    refine OpsE.exn (Ex.storeBlk (n := 2) (vs := tV L last x) H rfl rfl (by kernel_rfl) rfl (tV_one _ _ _) (Upd.skip u0 B) rfl (Thaw.zero _ _)) ?_; (try clear H); intro _ w H
    refine OpsE.ev (Ev.assign rfl) rfl ?_
    refine OpsE.nil ?_
    repeat (first | refine RunsE.seq ?_ | refine RunsE.skip ?_ | refine RunsE.block ?_ | refine RunsE.inBlock ?_ | refine RunsE.yes rfl ?_ | refine RunsE.no rfl ?_ | refine RunsE.exit rfl ?_)
    exact RunsE.retAggTmp (m := 2) H Tryd.func17 rfl rfl rfl (by kernel_rfl) rfl (List.mem_append_right B m0) ⟨L, [], x, .inl ⟨rfl, rfl, hall⟩, hR, H.dropL.drop.drop⟩
  · have hex : ∃ e ∈ L, (e.id : Int) = id := by
      refine Classical.byContradiction fun h => hall fun e he h2 => h ⟨e, he, h2⟩
    have hlt : (L.filter p).length < L.length := by
      obtain ⟨e, he, h2⟩ := hex
      exact List.length_filter_lt_length_iff_exists.2 ⟨e, he, by simp [hp, h2]⟩
    repeat (first | refine RunsE.seq ?_ | refine RunsE.skip ?_ | refine RunsE.block ?_ | refine RunsE.inBlock ?_ | refine RunsE.yes rfl ?_ | refine RunsE.no rfl ?_ | refine RunsE.exit rfl ?_)
    refine RunsE.region ?_
    refine OpsE.ev (Ev.move rfl) rfl ?_
    refine OpsE.ev (Ev.lenSl (d := 58) rfl rfl (by kernel_rfl)) rfl ?_
    refine OpsE.ev (Ev.fieldAddr (o := 0) rfl (by kernel_rfl)) rfl ?_
    refine OpsE.ev (Ev.load (v := .slice x.la L.length x.lc) H rfl (by kernel_rfl) (Rd.right (Rd.mk m1 rfl))) rfl ?_
    refine OpsE.ev (Ev.lenSl (d := 58) rfl rfl (by kernel_rfl)) rfl ?_
    refine OpsE.ev (Ev.eql (r := false) rfl rfl (beq_eq_false_iff_ne.2 (by omega))) rfl ?_
    refine OpsE.nil ?_
    repeat (first | refine RunsE.seq ?_ | refine RunsE.skip ?_ | refine RunsE.block ?_ | refine RunsE.inBlock ?_ | refine RunsE.yes rfl ?_ | refine RunsE.no rfl ?_ | refine RunsE.exit rfl ?_)
    refine RunsE.region ?_
    refine OpsE.ev (Ev.move rfl) rfl ?_
    refine OpsE.ev (Ev.fieldAddr (o := 0) rfl (by kernel_rfl)) rfl ?_
    refine OpsE.exn (Ex.store1 (cs' := (tV (L.filter p) last ⟨a', c'⟩).toArray) H rfl rfl (by kernel_rfl) rfl (Upd.skip u1 B) (by simp [tV]) (Thaw.zero _ _) rfl) ?_; (try clear H); intro _ w H
    refine OpsE.nil ?_
    repeat (first | refine RunsE.seq ?_ | refine RunsE.skip ?_ | refine RunsE.block ?_ | refine RunsE.inBlock ?_ | refine RunsE.yes rfl ?_ | refine RunsE.no rfl ?_ | refine RunsE.exit rfl ?_)
    refine RunsE.region ?_
    refine OpsE.ev (Ev.loadBlk (n := 2) (vs := tV (L.filter p) last ⟨a', c'⟩) H rfl (by kernel_rfl) rfl (List.mem_append_right B m1)) rfl ?_
    refine OpsE.exn (Ex.storeBlk (n := 2) (vs := tV (L.filter p) last ⟨a', c'⟩) H rfl rfl (by kernel_rfl) rfl (tV_one _ _ _) (Upd.skip u0 B) rfl (Thaw.zero _ _)) ?_; (try clear H); intro _ w H
    refine OpsE.ev (Ev.assign rfl) rfl ?_
    refine OpsE.nil ?_
    repeat (first | refine RunsE.seq ?_ | refine RunsE.skip ?_ | refine RunsE.block ?_ | refine RunsE.inBlock ?_ | refine RunsE.yes rfl ?_ | refine RunsE.no rfl ?_ | refine RunsE.exit rfl ?_)
    exact RunsE.retAggTmp (m := 2) H Tryd.func17 rfl rfl rfl (by kernel_rfl) rfl (List.mem_append_right B m0) ⟨L.filter p, B, ⟨a', c'⟩, .inr ⟨rfl, rfl, hex⟩, hs.rdS fun _ => rfl, H.dropMid.dropMid⟩

set_option maxHeartbeats 1000000 in
theorem rpop_spec [Strm] (L : List TEv) (last : Nat) (x : TX) (now : Int) (hL : L.length ≤ 1000000) (w : World) (X G : List (Nat × Obj)) (hG : ∀ p ∈ G, p ∈ X) (hR : RefT G L x) (H : SL w X) :
    Does Tryd.prog 18 #[TVal L last x, .int .i64 now] w fun r w' => ∃ n x' u, n ≤ L.length ∧ (∀ k, k < n → ((at' L k).due : Int) ≤ now) ∧ (n < L.length → now < ((at' L n).due : Int)) ∧ r = .tuple #[TVal (L.drop n) last x', u] ∧ RefT G (L.drop n) x' ∧ RdS G 3 u (L.take n).length ((L.take n).flatMap gE) ∧ SL w' X := by
  obtain ⟨_, _, ex, hlc⟩ := RdS.len hR
  cases ex
  refine Does.intro (args := [_, _]) (e := [(0, _), (1, _)]) Tryd.func18 rfl Tryd.ntmps18 rfl rfl ?_
  repeat (first | refine RunsE.seq ?_ | refine RunsE.skip ?_ | refine RunsE.block ?_ | refine RunsE.inBlock ?_ | refine RunsE.yes rfl ?_ | refine RunsE.no rfl ?_ | refine RunsE.exit rfl ?_)
  repeat (first | refine RunsE.seq ?_ | refine RunsE.skip ?_ | refine RunsE.block ?_ | refine RunsE.inBlock ?_ | refine RunsE.yes rfl ?_ | refine RunsE.no rfl ?_ | refine RunsE.exit rfl ?_)
  refine RunsE.region ?_
  refine OpsE.ex (Ex.box H rfl) rfl ?_; (try clear H); rintro _ w ⟨b2, rfl, H⟩; simp only [Value.cells] at H
  refine OpsE.ex (Ex.alloc (zv := .agg #[.slice none 0 0, .int .i64 0]) H (by kernel_rfl)) rfl ?_; (try clear H); rintro _ w ⟨b4, rfl, H⟩; simp only [Value.cells] at H
  refine OpsE.ev (Ev.assign rfl) rfl ?_
  refine OpsE.nil ?_
  repeat (first | refine RunsE.seq ?_ | refine RunsE.skip ?_ | refine RunsE.block ?_ | refine RunsE.inBlock ?_ | refine RunsE.yes rfl ?_ | refine RunsE.no rfl ?_ | refine RunsE.exit rfl ?_)
  refine RunsE.region ?_
  refine OpsE.ev (Ev.assign rfl) rfl ?_
  refine OpsE.nil ?_
  repeat refine RunsE.seq ?_
  refine RunsE.join (fun i : Nat => [(2, .pointer (some ⟨b2, 0, none⟩)), (4, .pointer (some ⟨b4, 0, none⟩)), (6, .int .i64 (i : Int))])
    (fun i w => (i ≤ L.length ∧ (∀ k, k < i → ((at' L k).due : Int) ≤ now) ∧ (i < L.length → now < ((at' L i).due : Int))) ∧ SL w ((b4, .cells #[.slice none 0 0, .int .i64 0] 28 (0, 0)) :: (b2, .cells (tV L last x).toArray 28 (0, 0)) :: X)) (fun next => ?_) ?_
  · refine RunsE.block ?_
    refine RunsE.loop (fun i : Nat => [(1, .int .i64 now), (2, .pointer (some ⟨b2, 0, none⟩)), (4, .pointer (some ⟨b4, 0, none⟩)), (6, .int .i64 (i : Int))])
      (fun i w => i ≤ L.length ∧ (∀ k, k < i → ((at' L k).due : Int) ≤ now) ∧ SL w ((b4, .cells #[.slice none 0 0, .int .i64 0] 28 (0, 0)) :: (b2, .cells (tV L last x).toArray 28 (0, 0)) :: X)) (fun i => L.length - i) 0 ⟨rfl, rfl, rfl, rfl, trivial⟩ ⟨by omega, fun k h => by omega, H⟩ ?_
    clear H
    rintro i w ⟨hi, hk, H⟩ nextL
    by_cases h2 : i = L.length
    ·
      repeat (first | refine RunsE.seq ?_ | refine RunsE.skip ?_ | refine RunsE.block ?_ | refine RunsE.inBlock ?_ | refine RunsE.yes rfl ?_ | refine RunsE.no rfl ?_ | refine RunsE.exit rfl ?_)
      refine RunsE.region ?_
      refine OpsE.ev (Ev.move rfl) rfl ?_
      refine OpsE.ev (Ev.fieldAddr (o := 0) rfl (by kernel_rfl)) rfl ?_
      refine OpsE.ev (Ev.load (v := .slice x.la L.length x.lc) H rfl (by kernel_rfl) (Rd.mk m1 rfl)) rfl ?_
      refine OpsE.ev (Ev.lenSl (d := 58) rfl rfl (by kernel_rfl)) rfl ?_
      refine OpsE.ev (Ev.lss (r := false) rfl rfl (decide_eq_false (by omega))) rfl ?_
      refine OpsE.ev (Ev.move rfl) rfl ?_
      first | (refine OpsE.yes rfl rfl ?_; refine OpsE.ev (Ev.fieldAddr (o := 0) rfl (by kernel_rfl)) rfl ?_) | refine OpsE.no rfl rfl rfl ?_ | refine OpsE.off rfl rfl rfl ?_
      first | (refine OpsE.yes rfl rfl ?_; refine OpsE.ev (Ev.load (v := .slice x.la L.length x.lc) H rfl (by kernel_rfl) (Rd.mk m1 rfl)) rfl ?_) | refine OpsE.no rfl rfl rfl ?_ | refine OpsE.off rfl rfl rfl ?_
      first | (refine OpsE.yes rfl rfl ?_; refine OpsE.ev (Ev.move rfl) rfl ?_) | refine OpsE.no rfl rfl rfl ?_ | refine OpsE.off rfl rfl rfl ?_
      first | (refine OpsE.yes rfl rfl ?_; refine OpsE.ev (Ev.move rfl) rfl ?_) | refine OpsE.no rfl rfl rfl ?_ | refine OpsE.off rfl rfl rfl ?_
      first | (refine OpsE.yes rfl rfl ?_; refine OpsE.ev (Ev.move rfl) rfl ?_) | refine OpsE.no rfl rfl rfl ?_ | refine OpsE.off rfl rfl rfl ?_
      first | (refine OpsE.yes rfl rfl ?_; refine OpsE.ev (Ev.move rfl) rfl ?_) | refine OpsE.no rfl rfl rfl ?_ | refine OpsE.off rfl rfl rfl ?_
      first | (refine OpsE.yes rfl rfl ?_; refine OpsE.ev (Ev.move rfl) rfl ?_) | refine OpsE.no rfl rfl rfl ?_ | refine OpsE.off rfl rfl rfl ?_
      first | (refine OpsE.yes rfl rfl ?_; refine OpsE.ev (Ev.leq rfl rfl rfl) rfl ?_) | refine OpsE.no rfl rfl rfl ?_ | refine OpsE.off rfl rfl rfl ?_
      refine OpsE.ev ((by first | exact Ev.pickT rfl rfl | exact Ev.pickF rfl rfl)) rfl ?_
      refine OpsE.nil ?_
      repeat refine RunsE.seq ?_
      refine RunsE.no rfl ?_
      refine RunsE.exit rfl ?_
      exact next i _ _ ⟨⟨by omega, hk, fun h => by omega⟩, H⟩ ⟨rfl, rfl, rfl, trivial⟩
    obtain ⟨bl, ol, el, hrd⟩ := hR.at (k := i) (by omega)
    have hrd1 := hrd 1 _ rfl
    by_cases h3 : ((at' L i).due : Int) ≤ now
    ·
      repeat (first | refine RunsE.seq ?_ | refine RunsE.skip ?_ | refine RunsE.block ?_ | refine RunsE.inBlock ?_ | refine RunsE.yes rfl ?_ | refine RunsE.no rfl ?_ | refine RunsE.exit rfl ?_)
      refine RunsE.region ?_
      refine OpsE.ev (Ev.move rfl) rfl ?_
      refine OpsE.ev (Ev.fieldAddr (o := 0) rfl (by kernel_rfl)) rfl ?_
      refine OpsE.ev (Ev.load (v := .slice x.la L.length x.lc) H rfl (by kernel_rfl) (Rd.mk m1 rfl)) rfl ?_
      refine OpsE.ev (Ev.lenSl (d := 58) rfl rfl (by kernel_rfl)) rfl ?_
      refine OpsE.ev (Ev.lss (r := true) rfl rfl (decide_eq_true (by omega))) rfl ?_
      refine OpsE.ev (Ev.move rfl) rfl ?_
      first | (refine OpsE.yes rfl rfl ?_; refine OpsE.ev (Ev.fieldAddr (o := 0) rfl (by kernel_rfl)) rfl ?_) | refine OpsE.no rfl rfl rfl ?_ | refine OpsE.off rfl rfl rfl ?_
      first | (refine OpsE.yes rfl rfl ?_; refine OpsE.ev (Ev.load (v := .slice (some ⟨bl, ol, none⟩) L.length x.lc) H rfl (by kernel_rfl) (Rd.mk m1 (by rw [← el]; rfl))) rfl ?_) | refine OpsE.no rfl rfl rfl ?_ | refine OpsE.off rfl rfl rfl ?_
      first | (refine OpsE.yes rfl rfl ?_; refine OpsE.ev (Ev.move rfl) rfl ?_) | refine OpsE.no rfl rfl rfl ?_ | refine OpsE.off rfl rfl rfl ?_
      first | (refine OpsE.yes rfl rfl ?_; refine OpsE.ev (Ev.iaSl (n := 58) (sz := 3) (m := i) (o := ol + i * 3) rfl rfl rfl (by kernel_rfl) (by omega)) rfl ?_) | refine OpsE.no rfl rfl rfl ?_ | refine OpsE.off rfl rfl rfl ?_
      first | (refine OpsE.yes rfl rfl ?_; refine OpsE.ev (Ev.fieldAddr (o := 1) (o' := ol + (i * 3 + 1)) rfl (by kernel_rfl) (by omega)) rfl ?_) | refine OpsE.no rfl rfl rfl ?_ | refine OpsE.off rfl rfl rfl ?_
      first | (refine OpsE.yes rfl rfl ?_; refine OpsE.ev (Ev.load H rfl (by kernel_rfl) (hrd1.sub hG).tail.tail) rfl ?_) | refine OpsE.no rfl rfl rfl ?_ | refine OpsE.off rfl rfl rfl ?_
      first | (refine OpsE.yes rfl rfl ?_; refine OpsE.ev (Ev.move rfl) rfl ?_) | refine OpsE.no rfl rfl rfl ?_ | refine OpsE.off rfl rfl rfl ?_
      first | (refine OpsE.yes rfl rfl ?_; refine OpsE.ev (Ev.leq (r := true) rfl rfl (decide_eq_true h3)) rfl ?_) | refine OpsE.no rfl rfl rfl ?_ | refine OpsE.off rfl rfl rfl ?_
      refine OpsE.ev ((by first | exact Ev.pickT rfl rfl | exact Ev.pickF rfl rfl)) rfl ?_
      refine OpsE.nil ?_
      repeat (first | refine RunsE.seq ?_ | refine RunsE.skip ?_ | refine RunsE.block ?_ | refine RunsE.inBlock ?_ | refine RunsE.yes rfl ?_ | refine RunsE.no rfl ?_ | refine RunsE.exit rfl ?_)
      repeat (first | refine RunsE.seq ?_ | refine RunsE.skip ?_ | refine RunsE.block ?_ | refine RunsE.inBlock ?_ | refine RunsE.yes rfl ?_ | refine RunsE.no rfl ?_ | refine RunsE.exit rfl ?_)
      refine RunsE.region ?_
      refine OpsE.ev (Ev.move rfl) rfl ?_
      refine OpsE.ev (Ev.add rfl rfl) rfl ?_
      refine OpsE.ev (Ev.assign rfl) rfl ?_
      refine OpsE.nil ?_
      refine RunsE.inBlock ?_
      refine nextL (i + 1) _ _ (by omega) ⟨by omega, fun k h => ?_, H⟩ ⟨rfl, rfl, rfl, rfl, trivial⟩
      rcases Nat.lt_or_eq_of_le (Nat.le_of_lt_succ h) with h | h
      · exact hk k h
      · rw [h]; exact h3
    ·
      repeat (first | refine RunsE.seq ?_ | refine RunsE.skip ?_ | refine RunsE.block ?_ | refine RunsE.inBlock ?_ | refine RunsE.yes rfl ?_ | refine RunsE.no rfl ?_ | refine RunsE.exit rfl ?_)
      refine RunsE.region ?_
      refine OpsE.ev (Ev.move rfl) rfl ?_
      refine OpsE.ev (Ev.fieldAddr (o := 0) rfl (by kernel_rfl)) rfl ?_
      refine OpsE.ev (Ev.load (v := .slice x.la L.length x.lc) H rfl (by kernel_rfl) (Rd.mk m1 rfl)) rfl ?_
      refine OpsE.ev (Ev.lenSl (d := 58) rfl rfl (by kernel_rfl)) rfl ?_
      refine OpsE.ev (Ev.lss (r := true) rfl rfl (decide_eq_true (by omega))) rfl ?_
      refine OpsE.ev (Ev.move rfl) rfl ?_
      first | (refine OpsE.yes rfl rfl ?_; refine OpsE.ev (Ev.fieldAddr (o := 0) rfl (by kernel_rfl)) rfl ?_) | refine OpsE.no rfl rfl rfl ?_ | refine OpsE.off rfl rfl rfl ?_
      first | (refine OpsE.yes rfl rfl ?_; refine OpsE.ev (Ev.load (v := .slice (some ⟨bl, ol, none⟩) L.length x.lc) H rfl (by kernel_rfl) (Rd.mk m1 (by rw [← el]; rfl))) rfl ?_) | refine OpsE.no rfl rfl rfl ?_ | refine OpsE.off rfl rfl rfl ?_
      first | (refine OpsE.yes rfl rfl ?_; refine OpsE.ev (Ev.move rfl) rfl ?_) | refine OpsE.no rfl rfl rfl ?_ | refine OpsE.off rfl rfl rfl ?_
      first | (refine OpsE.yes rfl rfl ?_; refine OpsE.ev (Ev.iaSl (n := 58) (sz := 3) (m := i) (o := ol + i * 3) rfl rfl rfl (by kernel_rfl) (by omega)) rfl ?_) | refine OpsE.no rfl rfl rfl ?_ | refine OpsE.off rfl rfl rfl ?_
      first | (refine OpsE.yes rfl rfl ?_; refine OpsE.ev (Ev.fieldAddr (o := 1) (o' := ol + (i * 3 + 1)) rfl (by kernel_rfl) (by omega)) rfl ?_) | refine OpsE.no rfl rfl rfl ?_ | refine OpsE.off rfl rfl rfl ?_
      first | (refine OpsE.yes rfl rfl ?_; refine OpsE.ev (Ev.load H rfl (by kernel_rfl) (hrd1.sub hG).tail.tail) rfl ?_) | refine OpsE.no rfl rfl rfl ?_ | refine OpsE.off rfl rfl rfl ?_
      first | (refine OpsE.yes rfl rfl ?_; refine OpsE.ev (Ev.move rfl) rfl ?_) | refine OpsE.no rfl rfl rfl ?_ | refine OpsE.off rfl rfl rfl ?_
      first | (refine OpsE.yes rfl rfl ?_; refine OpsE.ev (Ev.leq (r := false) rfl rfl (decide_eq_false h3)) rfl ?_) | refine OpsE.no rfl rfl rfl ?_ | refine OpsE.off rfl rfl rfl ?_
      refine OpsE.ev ((by first | exact Ev.pickT rfl rfl | exact Ev.pickF rfl rfl)) rfl ?_
      refine OpsE.nil ?_
      repeat refine RunsE.seq ?_
      refine RunsE.no rfl ?_
      refine RunsE.exit rfl ?_
      exact next i _ _ ⟨⟨hi, hk, fun _ => by omega⟩, H⟩ ⟨rfl, rfl, rfl, trivial⟩
  clear H
  rintro i w ⟨⟨hi, hk, hk2⟩, H⟩
  have hdl : (L.drop i).length = L.length - i := List.length_drop
  have htl : (L.take i).length = i := by rw [List.length_take]; omega
  have hts := RdS.takeS (k := i) hR (fun _ => rfl) hi
  have hds := RdS.dropS (k := i) hR (fun _ => rfl) hi
  repeat (first | refine RunsE.seq ?_ | refine RunsE.skip ?_ | refine RunsE.block ?_ | refine RunsE.inBlock ?_ | refine RunsE.yes rfl ?_ | refine RunsE.no rfl ?_ | refine RunsE.exit rfl ?_)
  refine RunsE.region ?_
  refine OpsE.ev (Ev.fieldAddr (o := 0) rfl (by kernel_rfl)) rfl ?_
  refine OpsE.ev (Ev.load (v := .slice x.la L.length x.lc) H rfl (by kernel_rfl) (Rd.mk m1 rfl)) rfl ?_
  refine OpsE.ev (Ev.move rfl) rfl ?_
  refine OpsE.ev (Ev.slSl (el := 58) (sz := 3) (l := 0) (h := i) rfl (by kernel_rfl) rfl ⟨_, rfl⟩ (by omega) (by omega)) rfl ?_
  refine OpsE.ev (Ev.assign rfl) rfl ?_
  refine OpsE.nil ?_
  repeat (first | refine RunsE.seq ?_ | refine RunsE.skip ?_ | refine RunsE.block ?_ | refine RunsE.inBlock ?_ | refine RunsE.yes rfl ?_ | refine RunsE.no rfl ?_ | refine RunsE.exit rfl ?_)
  refine RunsE.region ?_
  refine OpsE.ev (Ev.fieldAddr (o := 0) rfl (by kernel_rfl)) rfl ?_
  refine OpsE.ev (Ev.load (v := .slice x.la L.length x.lc) H rfl (by kernel_rfl) (Rd.mk m1 rfl)) rfl ?_
  refine OpsE.ev (Ev.move rfl) rfl ?_
  refine OpsE.ev (Ev.slSl (el := 58) (sz := 3) (l := i) (h := L.length) rfl (by kernel_rfl) ⟨_, rfl⟩ rfl (by omega) (by omega)) rfl ?_
  refine OpsE.ev (Ev.fieldAddr (o := 0) rfl (by kernel_rfl)) rfl ?_
  refine OpsE.exn (Ex.store1 (cs' := (tV (L.drop i) last ⟨cutAddr x.la i x.lc 3, x.lc - i⟩).toArray) H rfl rfl (by kernel_rfl) rfl u1 (by simp [tV]) (Thaw.zero _ _) (by simp only [tV, hdl]; rfl)) ?_; (try clear H); intro _ w H
  refine OpsE.nil ?_
  repeat (first | refine RunsE.seq ?_ | refine RunsE.skip ?_ | refine RunsE.block ?_ | refine RunsE.inBlock ?_ | refine RunsE.yes rfl ?_ | refine RunsE.no rfl ?_ | refine RunsE.exit rfl ?_)
  refine RunsE.region ?_
  refine OpsE.ev (Ev.loadBlk (n := 2) (vs := tV (L.drop i) last ⟨cutAddr x.la i x.lc 3, x.lc - i⟩) H rfl (by kernel_rfl) rfl m1) rfl ?_
  refine OpsE.ev (Ev.move rfl) rfl ?_
  refine OpsE.exn (Ex.storeBlk (n := 2) (vs := tV (L.drop i) last ⟨cutAddr x.la i x.lc 3, x.lc - i⟩) H rfl rfl (by kernel_rfl) rfl (tV_one _ _ _) u0 rfl (Thaw.zero _ _)) ?_; (try clear H); intro _ w H
  refine OpsE.ev (Ev.assign rfl) rfl ?_
  refine OpsE.nil ?_
  repeat (first | refine RunsE.seq ?_ | refine RunsE.skip ?_ | refine RunsE.block ?_ | refine RunsE.inBlock ?_ | refine RunsE.yes rfl ?_ | refine RunsE.no rfl ?_ | refine RunsE.exit rfl ?_)
  exact RunsE.retAggTmp (m := 2) H Tryd.func18 rfl rfl rfl (by kernel_rfl) rfl m0 ⟨i, ⟨cutAddr x.la i x.lc 3, x.lc - i⟩, _, hi, hk, hk2, rfl, by unfold RefT; rw [hdl]; rw [hdl] at hds; exact hds, hts, H.drop.drop⟩

theorem evs_spec [Strm] (xs : List TEv) (u v : Value) (hx : xs.length ≤ 1000000) (w : World) (X : List (Nat × Obj)) (hu : RdS X 3 u xs.length (xs.flatMap gE)) (hv : RdS X 3 v xs.length (xs.flatMap gE)) (H : SL w X) :
    Does Tryd.prog 10 #[u, v] w fun r w' => r = .bool true ∧ SL w' X := by
  obtain ⟨au, cu, rfl, hcu⟩ := hu.len
  obtain ⟨av, cv, rfl, hcv⟩ := hv.len
  refine Does.intro (args := [_, _]) (e := [(0, _), (1, _)]) Tryd.func10 rfl Tryd.ntmps10 rfl rfl ?_
  repeat (first | refine RunsE.seq ?_ | refine RunsE.skip ?_ | refine RunsE.block ?_ | refine RunsE.inBlock ?_ | refine RunsE.yes rfl ?_ | refine RunsE.no rfl ?_ | refine RunsE.exit rfl ?_)
  repeat (first | refine RunsE.seq ?_ | refine RunsE.skip ?_ | refine RunsE.block ?_ | refine RunsE.inBlock ?_ | refine RunsE.yes rfl ?_ | refine RunsE.no rfl ?_ | refine RunsE.exit rfl ?_)
  refine RunsE.region ?_
  refine OpsE.ev (Ev.assign rfl) rfl ?_
  refine OpsE.nil ?_
  repeat (first | refine RunsE.seq ?_ | refine RunsE.skip ?_ | refine RunsE.block ?_ | refine RunsE.inBlock ?_ | refine RunsE.yes rfl ?_ | refine RunsE.no rfl ?_ | refine RunsE.exit rfl ?_)
  refine RunsE.region ?_
  refine OpsE.ev (Ev.move rfl) rfl ?_
  refine OpsE.ev (Ev.lenSl (d := 46) rfl rfl (by kernel_rfl)) rfl ?_
  refine OpsE.ev (Ev.move rfl) rfl ?_
  refine OpsE.ev (Ev.lenSl (d := 58) rfl rfl (by kernel_rfl)) rfl ?_
  refine OpsE.ev (Ev.neq (r := false) rfl rfl (by simp)) rfl ?_
  refine OpsE.nil ?_
  repeat (first | refine RunsE.seq ?_ | refine RunsE.skip ?_ | refine RunsE.block ?_ | refine RunsE.inBlock ?_ | refine RunsE.yes rfl ?_ | refine RunsE.no rfl ?_ | refine RunsE.exit rfl ?_)
  refine RunsE.region ?_
  refine OpsE.ev (Ev.assign rfl) rfl ?_
  refine OpsE.nil ?_
  repeat refine RunsE.seq ?_
  refine RunsE.join (fun _ : Unit => []) (fun _ w => SL w X) (fun next => ?_) ?_
  · refine RunsE.block ?_
    refine RunsE.loop (fun i : Nat => [(0, .slice au xs.length cu), (1, .slice av xs.length cv), (5, .int .i64 (i : Int))]) (fun i w => i ≤ xs.length ∧ SL w X) (fun i => xs.length - i) 0 ⟨rfl, rfl, rfl, trivial⟩ ⟨by omega, H⟩ ?_
    clear H
    rintro i w ⟨hi, H⟩ nextL
    by_cases h1 : i = xs.length
    ·
      repeat (first | refine RunsE.seq ?_ | refine RunsE.skip ?_ | refine RunsE.block ?_ | refine RunsE.inBlock ?_ | refine RunsE.yes rfl ?_ | refine RunsE.no rfl ?_ | refine RunsE.exit rfl ?_)
      refine RunsE.region ?_
      refine OpsE.ev (Ev.move rfl) rfl ?_
      refine OpsE.ev (Ev.move rfl) rfl ?_
      refine OpsE.ev (Ev.lenSl (d := 46) rfl rfl (by kernel_rfl)) rfl ?_
      refine OpsE.ev (Ev.lss (r := false) rfl rfl (decide_eq_false (by omega))) rfl ?_
      refine OpsE.nil ?_
      repeat refine RunsE.seq ?_
      refine RunsE.no rfl ?_
      refine RunsE.exit rfl ?_
      exact next () _ _ H trivial
    clear next
    obtain ⟨bu, ou, rfl, hur⟩ := RefT.in hu rfl (k := i) (by omega)
    obtain ⟨bv, ov, rfl, hvr⟩ := RefT.in hv rfl (k := i) (by omega)
    repeat (first | refine RunsE.seq ?_ | refine RunsE.skip ?_ | refine RunsE.block ?_ | refine RunsE.inBlock ?_ | refine RunsE.yes rfl ?_ | refine RunsE.no rfl ?_ | refine RunsE.exit rfl ?_)
    refine RunsE.region ?_
    refine OpsE.ev (Ev.move rfl) rfl ?_
    refine OpsE.ev (Ev.move rfl) rfl ?_
    refine OpsE.ev (Ev.lenSl (d := 46) rfl rfl (by kernel_rfl)) rfl ?_
    refine OpsE.ev (Ev.lss (r := true) rfl rfl (decide_eq_true (by omega))) rfl ?_
    refine OpsE.nil ?_
    repeat (first | refine RunsE.seq ?_ | refine RunsE.skip ?_ | refine RunsE.block ?_ | refine RunsE.inBlock ?_ | refine RunsE.yes rfl ?_ | refine RunsE.no rfl ?_ | refine RunsE.exit rfl ?_)
    repeat (first | refine RunsE.seq ?_ | refine RunsE.skip ?_ | refine RunsE.block ?_ | refine RunsE.inBlock ?_ | refine RunsE.yes rfl ?_ | refine RunsE.no rfl ?_ | refine RunsE.exit rfl ?_)
    refine RunsE.drawS H [] (by kernel_rfl) ?_; (try clear H); intro w H
    refine OpsD.take 0 rfl (by kernel_rfl) (by first | exact H | exact H.drop | exact H.drop.drop | exact H.dropL | exact H.drop.dropL | exact H.dropL.drop | exact H.dropL.dropL | exact H.dropMid) (fun w H => Ev.move rfl) rfl ?_
    refine OpsD.take 1 rfl (by kernel_rfl) (by first | exact H | exact H.drop | exact H.drop.drop | exact H.dropL | exact H.drop.dropL | exact H.dropL.drop | exact H.dropL.dropL | exact H.dropMid) (fun w H => Ev.move rfl) rfl ?_
    refine OpsD.take 2 rfl (by kernel_rfl) (by first | exact H | exact H.drop | exact H.drop.drop | exact H.dropL | exact H.drop.dropL | exact H.dropL.drop | exact H.dropL.dropL | exact H.dropMid) (fun w H => Ev.iaSl (n := 46) (sz := 3) (m := i) (o := ou + i * 3) rfl rfl rfl (by kernel_rfl) (by omega)) rfl ?_
    refine OpsD.take 3 rfl (by kernel_rfl) (by first | exact H | exact H.drop | exact H.drop.drop | exact H.dropL | exact H.drop.dropL | exact H.dropL.drop | exact H.dropL.dropL | exact H.dropMid) (fun w H => Ev.loadAgg (vs := gE (at' xs i)) H rfl (by kernel_rfl) (fun j v hj => by rw [add_none, Nat.add_assoc]; exact hur j v hj)) rfl ?_
    refine OpsD.take 4 rfl (by kernel_rfl) (by first | exact H | exact H.drop | exact H.drop.drop | exact H.dropL | exact H.drop.dropL | exact H.dropL.drop | exact H.dropL.dropL | exact H.dropMid) (fun w H => Ev.move rfl) rfl ?_
    refine OpsD.take 5 rfl (by kernel_rfl) (by first | exact H | exact H.drop | exact H.drop.drop | exact H.dropL | exact H.drop.dropL | exact H.dropL.drop | exact H.dropL.dropL | exact H.dropMid) (fun w H => Ev.move rfl) rfl ?_
    refine OpsD.take 6 rfl (by kernel_rfl) (by first | exact H | exact H.drop | exact H.drop.drop | exact H.dropL | exact H.drop.dropL | exact H.dropL.drop | exact H.dropL.dropL | exact H.dropMid) (fun w H => Ev.iaSl (n := 58) (sz := 3) (m := i) (o := ov + i * 3) rfl rfl rfl (by kernel_rfl) (by omega)) rfl ?_
    refine OpsD.take 7 rfl (by kernel_rfl) (by first | exact H | exact H.drop | exact H.drop.drop | exact H.dropL | exact H.drop.dropL | exact H.dropL.drop | exact H.dropL.dropL | exact H.dropMid) (fun w H => Ev.loadAgg (vs := gE (at' xs i)) H rfl (by kernel_rfl) (fun j v hj => by rw [add_none, Nat.add_assoc]; exact hvr j v hj)) rfl ?_
    refine OpsD.take 8 rfl (by kernel_rfl) (by first | exact H | exact H.drop | exact H.drop.drop | exact H.dropL | exact H.drop.dropL | exact H.dropL.drop | exact H.dropL.dropL | exact H.dropMid) (fun w H => Ev.iisNe rfl rfl (by kernel_rfl)) rfl ?_
    refine OpsD.done (by kernel_rfl) ?_
    repeat refine RunsE.seq ?_
    refine RunsE.no rfl ?_
    refine RunsE.skip ?_
    refine RunsE.inBlock ?_
    repeat (first | refine RunsE.seq ?_ | refine RunsE.skip ?_ | refine RunsE.block ?_ | refine RunsE.inBlock ?_ | refine RunsE.yes rfl ?_ | refine RunsE.no rfl ?_ | refine RunsE.exit rfl ?_)
    refine RunsE.region ?_
    refine OpsE.ev (Ev.move rfl) rfl ?_
    refine OpsE.ev (Ev.add rfl rfl) rfl ?_
    refine OpsE.ev (Ev.assign rfl) rfl ?_
    refine OpsE.nil ?_
    exact nextL (i + 1) _ _ (by omega) ⟨by omega, H⟩ ⟨rfl, rfl, rfl, trivial⟩
  clear H
  rintro _ w H
  repeat (first | refine RunsE.seq ?_ | refine RunsE.skip ?_ | refine RunsE.block ?_ | refine RunsE.inBlock ?_ | refine RunsE.yes rfl ?_ | refine RunsE.no rfl ?_ | refine RunsE.exit rfl ?_)
  refine RunsE.region ?_
  refine OpsE.ev (Ev.assign rfl) rfl ?_
  refine OpsE.nil ?_
  repeat (first | refine RunsE.seq ?_ | refine RunsE.skip ?_ | refine RunsE.block ?_ | refine RunsE.inBlock ?_ | refine RunsE.yes rfl ?_ | refine RunsE.no rfl ?_ | refine RunsE.exit rfl ?_)
  exact RunsE.ret1 Tryd.func10 rfl rfl ⟨rfl, H⟩

end Go.Proofs.YtgeocehgobcdjaaDoor
