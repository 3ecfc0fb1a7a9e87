/-
  The queue: Remove, Cancel, Events.
-/
import Derived.Test.YtgeocehgobcdjaaDoorTimerS
import Derived.Test.YtgeocehgobcdjaaDoorVRd
namespace Go.Proofs.YtgeocehgobcdjaaDoor
open Go.Proofs.YtgeocehgobcdjaaDoor.V

theorem hremove_spec [Strm] (v : Value) (xs : List TEv) (i b last : Nat) (hx : xs.length ≤ 1000000) (hi : i < xs.length) (hh : IsHeap xs xs.length) (w : World) (B F : List (Nat × Obj)) (hs : SlE v xs B) (H : SL w (B ++ (qC b last v :: F))) :
    Does Tryd.prog 24 #[hV b, .int .i64 (i : Int)] w fun _ w' => ∃ v' ys B', (at' xs i :: ys).Perm xs ∧ IsHeap ys ys.length ∧ SlE v' ys B' ∧ SL w' (B' ++ (qC b last v' :: F)) := by
  obtain ⟨n, hn⟩ : ∃ n, xs.length = n + 1 := ⟨xs.length - 1, by omega⟩
  obtain ⟨a, c, rfl⟩ := hs.len
  refine Does.intro (args := [_, _]) (e := [(0, _), (1, _)]) Tryd.func24 rfl Tryd.ntmps24 rfl rfl ?_
  repeat (first | refine RunsE.seq ?_ | refine RunsE.skip ?_ | refine RunsE.block ?_ | refine RunsE.inBlock ?_ | refine RunsE.yes rfl ?_ | refine RunsE.no rfl ?_ | refine RunsE.exit rfl ?_)
  repeat (first | refine RunsE.seq ?_ | refine RunsE.skip ?_ | refine RunsE.block ?_ | refine RunsE.inBlock ?_ | refine RunsE.yes rfl ?_ | refine RunsE.no rfl ?_ | refine RunsE.exit rfl ?_)
  refine RunsE.region ?_
  refine OpsE.ev (Ev.assign rfl) rfl ?_
  refine OpsE.nil ?_
  repeat (first | refine RunsE.seq ?_ | refine RunsE.skip ?_ | refine RunsE.block ?_ | refine RunsE.inBlock ?_ | refine RunsE.yes rfl ?_ | refine RunsE.no rfl ?_ | refine RunsE.exit rfl ?_)
  refine RunsE.region ?_
  refine OpsE.ev (Ev.move rfl) rfl ?_
  refine OpsE.ex (Ex.invoke rfl rfl (m_len H) Tryd.call54 (elen_spec _ xs.length ⟨_, _, rfl⟩ w _ H)) rfl ?_; (try clear H); rintro _ w ⟨rfl, H⟩
  refine OpsE.ev (Ev.sub (c := (n : Int)) rfl rfl (by rw [qi64 (by omega) (by omega)]; omega)) rfl ?_
  refine OpsE.ev (Ev.assign rfl) rfl ?_
  refine OpsE.nil ?_
  refine RunsE.seq ?_
  refine (RunsE.join (fun _ : Unit => [(0, hV b)]) (fun _ w => ∃ ys B, ys.Perm xs ∧ at' ys n = at' xs i ∧ IsHeap ys n ∧ SlE (.slice a xs.length c) ys B ∧ SL w (B ++ (qC b last (.slice a xs.length c) :: F))) (fun next => ?_) ?_)
  · by_cases h1 : i = n
    ·
      repeat (first | refine RunsE.seq ?_ | refine RunsE.skip ?_ | refine RunsE.block ?_ | refine RunsE.inBlock ?_ | refine RunsE.yes rfl ?_ | refine RunsE.no rfl ?_ | refine RunsE.exit rfl ?_)
      refine RunsE.region ?_
      refine OpsE.ev (Ev.move rfl) rfl ?_
      refine OpsE.ev (Ev.move rfl) rfl ?_
      refine OpsE.ev (Ev.neq (r := false) rfl rfl (bne_eq_false_iff_eq.2 (by omega))) rfl ?_
      refine OpsE.nil ?_
      repeat refine RunsE.seq ?_
      refine RunsE.no rfl ?_
      refine RunsE.skip ?_
      exact next () _ _ ⟨xs, B, .refl _, by rw [h1], fun k k0 hk => hh k k0 (by omega), hs, H⟩ ⟨rfl, trivial⟩
    · have hsl : (sw xs i n).length = xs.length := sw_len _ _ _
      have hlast : at' (sw xs i n) n = at' xs i := by rw [sw_at (by omega) (by omega), if_pos rfl]
      repeat (first | refine RunsE.seq ?_ | refine RunsE.skip ?_ | refine RunsE.block ?_ | refine RunsE.inBlock ?_ | refine RunsE.yes rfl ?_ | refine RunsE.no rfl ?_ | refine RunsE.exit rfl ?_)
      refine RunsE.region ?_
      refine OpsE.ev (Ev.move rfl) rfl ?_
      refine OpsE.ev (Ev.move rfl) rfl ?_
      refine OpsE.ev (Ev.neq (r := true) rfl rfl (bne_iff_ne.2 (by omega))) rfl ?_
      refine OpsE.nil ?_
      repeat refine RunsE.seq ?_
      refine RunsE.yes rfl ?_
      repeat (first | refine RunsE.seq ?_ | refine RunsE.skip ?_ | refine RunsE.block ?_ | refine RunsE.inBlock ?_ | refine RunsE.yes rfl ?_ | refine RunsE.no rfl ?_ | refine RunsE.exit rfl ?_)
      refine RunsE.region ?_
      refine OpsE.ev (Ev.move rfl) rfl ?_
      refine OpsE.ev (Ev.move rfl) rfl ?_
      refine OpsE.ev (Ev.move rfl) rfl ?_
      refine OpsE.ex (Ex.invoke rfl rfl (m_swap H) Tryd.call56 (swap_spec _ xs i n (by omega) (by omega) w _ _ hs H)) rfl ?_; (try clear H); rintro _ w ⟨rfl, B, hs, H⟩
      refine OpsE.nil ?_
      repeat (first | refine RunsE.seq ?_ | refine RunsE.skip ?_ | refine RunsE.block ?_ | refine RunsE.inBlock ?_ | refine RunsE.yes rfl ?_ | refine RunsE.no rfl ?_ | refine RunsE.exit rfl ?_)
      refine RunsE.region ?_
      refine OpsE.ev (Ev.move rfl) rfl ?_
      refine OpsE.ev (Ev.move rfl) rfl ?_
      refine OpsE.ev (Ev.move rfl) rfl ?_
      refine OpsE.ex (Ex.call rfl Tryd.call31 (down_spec _ (sw xs i n) i n b last (by omega) (by omega) (by omega) (remove_near (by rw [hn] at hh; exact hh) hn (by omega)) w _ _ hs H)) rfl ?_; (try clear H); rintro _ w ⟨moved, ys, B, rfl, hperm, htail, hcase, hs, H⟩
      refine OpsE.ev (Ev.not rfl) rfl ?_
      refine OpsE.nil ?_
      have hyl := hperm.length_eq
      have hp2 := hperm.trans (sw_perm (xs := xs) (i := i) (j := n) (by omega) (by omega))
      have hyn : at' ys n = at' xs i := by rw [htail n (Nat.le_refl _), hlast]
      rcases hcase with ⟨rfl, h⟩ | ⟨rfl, _, h⟩
      · repeat refine RunsE.seq ?_
        refine RunsE.no rfl ?_
        refine RunsE.skip ?_
        exact next () _ _ ⟨ys, B, hp2, hyn, h, hs, H⟩ ⟨rfl, trivial⟩
      · repeat refine RunsE.seq ?_
        refine RunsE.yes rfl ?_
        repeat (first | refine RunsE.seq ?_ | refine RunsE.skip ?_ | refine RunsE.block ?_ | refine RunsE.inBlock ?_ | refine RunsE.yes rfl ?_ | refine RunsE.no rfl ?_ | refine RunsE.exit rfl ?_)
        refine RunsE.region ?_
        refine OpsE.ev (Ev.move rfl) rfl ?_
        refine OpsE.ev (Ev.move rfl) rfl ?_
        refine OpsE.ex (Ex.call rfl Tryd.call26 (up_spec _ ys n i b last (by omega) (by omega) (by omega) h w _ _ hs H)) rfl ?_; (try clear H); rintro _ w ⟨rfl, zs, B, hzp, hzt, hzh, hs, H⟩
        refine OpsE.nil ?_
        exact next () _ _ ⟨zs, B, hzp.trans hp2, by rw [hzt n (Nat.le_refl _), hyn], hzh, hs, H⟩ ⟨rfl, trivial⟩
  clear H hs B
  rintro _ w ⟨ys, B, hperm, hyn, hheap, hs, H⟩
  have hyl := hperm.length_eq
  repeat (first | refine RunsE.seq ?_ | refine RunsE.skip ?_ | refine RunsE.block ?_ | refine RunsE.inBlock ?_ | refine RunsE.yes rfl ?_ | refine RunsE.no rfl ?_ | refine RunsE.exit rfl ?_)
  refine RunsE.region ?_
  refine OpsE.ev (Ev.move rfl) rfl ?_
  refine OpsE.ex (Ex.invoke rfl rfl m_pop Tryd.call58 (epop_spec _ ys b last n (by omega) (by omega) w _ _ hs H)) rfl ?_; (try clear H); rintro _ w ⟨rfl, v', B, hs, H⟩
  refine OpsE.ev (Ev.assign rfl) rfl ?_
  refine OpsE.nil ?_
  repeat (first | refine RunsE.seq ?_ | refine RunsE.skip ?_ | refine RunsE.block ?_ | refine RunsE.inBlock ?_ | refine RunsE.yes rfl ?_ | refine RunsE.no rfl ?_ | refine RunsE.exit rfl ?_)
  refine RunsE.ret1 Tryd.func24 rfl rfl ⟨v', ys.take n, B, ?_, heap_take hheap (by omega), hs, H⟩
  have := take_last (ys := ys) (n := n) (by omega)
  rw [hyn] at this
  exact this.trans hperm

theorem cancelfn_spec [Strm] (e : TEv) (id : Int) (c : Nat) (w : World) (F : List (Nat × Obj)) (hc : Rd F ⟨c, 0, none⟩ (.int .i64 id)) (H : SL w F) :
    Does Tryd.prog 23 #[EvV e, .pointer (some ⟨c, 0, none⟩)] w fun r w' => r = .bool (decide ((e.id : Int) = id)) ∧ SL w' F := by
  refine Does.intro (args := [_, _]) (e := [(0, _), (1, _)]) Tryd.func23 rfl Tryd.ntmps23 rfl rfl ?_
  repeat (first | refine RunsE.seq ?_ | refine RunsE.skip ?_ | refine RunsE.block ?_ | refine RunsE.inBlock ?_ | refine RunsE.yes rfl ?_ | refine RunsE.no rfl ?_ | refine RunsE.exit rfl ?_)
  repeat (first | refine RunsE.seq ?_ | refine RunsE.skip ?_ | refine RunsE.block ?_ | refine RunsE.inBlock ?_ | refine RunsE.yes rfl ?_ | refine RunsE.no rfl ?_ | refine RunsE.exit rfl ?_)
  refine RunsE.region ?_
  refine OpsE.ex (Ex.box H rfl) rfl ?_; (try clear H); rintro _ w ⟨b2, rfl, H⟩; simp only [Value.cells] at H
  refine OpsE.ev (Ev.assign rfl) rfl ?_
  refine OpsE.nil ?_
  repeat (first | refine RunsE.seq ?_ | refine RunsE.skip ?_ | refine RunsE.block ?_ | refine RunsE.inBlock ?_ | refine RunsE.yes rfl ?_ | refine RunsE.no rfl ?_ | refine RunsE.exit rfl ?_)
  refine RunsE.region ?_
  refine OpsE.ev (Ev.fieldAddr (o := 0) rfl (by kernel_rfl)) rfl ?_
  refine OpsE.ev (Ev.load (v := .int .i64 (e.id : Int)) H rfl (by kernel_rfl) (Rd.mk m0 rfl)) rfl ?_
  refine OpsE.ev (Ev.load H rfl (by kernel_rfl) hc.tail) rfl ?_
  refine OpsE.ev (Ev.eql (r := decide ((e.id : Int) = id)) rfl rfl (by rw [Bool.eq_iff_iff, beq_iff_eq, decide_eq_true_iff])) rfl ?_
  refine OpsE.ev (Ev.assign rfl) rfl ?_
  refine OpsE.nil ?_
  repeat (first | refine RunsE.seq ?_ | refine RunsE.skip ?_ | refine RunsE.block ?_ | refine RunsE.inBlock ?_ | refine RunsE.yes rfl ?_ | refine RunsE.no rfl ?_ | refine RunsE.exit rfl ?_)
  exact RunsE.ret1 Tryd.func23 rfl rfl ⟨rfl, H.drop⟩

theorem indexf_spec [Strm] (v : Value) (xs : List TEv) (id : Int) (c : Nat) (hx : xs.length ≤ 1000000) (w : World) (B F : List (Nat × Obj)) (hs : SlE v xs B) (hc : Rd F ⟨c, 0, none⟩ (.int .i64 id)) (H : SL w (B ++ F)) :
    Does Tryd.prog 22 #[v, .func (.func 23) #[] #[.pointer (some ⟨c, 0, none⟩)]] w fun r w' => ((r = .int .i64 (-1) ∧ ∀ k, k < xs.length → ((at' xs k).id : Int) ≠ id) ∨ ∃ i, i < xs.length ∧ r = .int .i64 (i : Int) ∧ ((at' xs i).id : Int) = id) ∧ SL w' (B ++ F) := by
  obtain ⟨a, cp, rfl, hcp⟩ := hs.leCap
  refine Does.intro (args := [_, _]) (e := [(0, _), (1, _)]) Tryd.func22 rfl Tryd.ntmps22 rfl rfl ?_
  repeat (first | refine RunsE.seq ?_ | refine RunsE.skip ?_ | refine RunsE.block ?_ | refine RunsE.inBlock ?_ | refine RunsE.yes rfl ?_ | refine RunsE.no rfl ?_ | refine RunsE.exit rfl ?_)
  repeat (first | refine RunsE.seq ?_ | refine RunsE.skip ?_ | refine RunsE.block ?_ | refine RunsE.inBlock ?_ | refine RunsE.yes rfl ?_ | refine RunsE.no rfl ?_ | refine RunsE.exit rfl ?_)
  refine RunsE.region ?_
  refine OpsE.ev (Ev.assign rfl) rfl ?_
  refine OpsE.nil ?_
  repeat (first | refine RunsE.seq ?_ | refine RunsE.skip ?_ | refine RunsE.block ?_ | refine RunsE.inBlock ?_ | refine RunsE.yes rfl ?_ | refine RunsE.no rfl ?_ | refine RunsE.exit rfl ?_)
  refine RunsE.region ?_
  refine OpsE.ev (Ev.move rfl) rfl ?_
  refine OpsE.ev (Ev.lenSl (d := 46) rfl rfl (by kernel_rfl)) rfl ?_
  refine OpsE.ev (Ev.move rfl) rfl ?_
  refine OpsE.nil ?_
  repeat refine RunsE.seq ?_
  refine RunsE.join (fun _ : Unit => []) (fun _ w => (∀ k, k < xs.length → ((at' xs k).id : Int) ≠ id) ∧ SL w (B ++ F)) (fun next => ?_) ?_
  · refine RunsE.block ?_
    refine RunsE.loop (fun i : Nat => [(0, .slice a xs.length cp), (1, .func (.func 23) #[] #[.pointer (some ⟨c, 0, none⟩)]), (7, .int .i64 (xs.length : Int)), (8, .int .i64 (i : Int))])
      (fun i w => i ≤ xs.length ∧ (∀ k, k < i → ((at' xs k).id : Int) ≠ id) ∧ SL w (B ++ F)) (fun i => xs.length - i) 0 ⟨rfl, rfl, rfl, rfl, trivial⟩ ⟨by omega, fun k h => by omega, H⟩ ?_
    clear H
    rintro i w ⟨hi, hne, H⟩ nextL
    by_cases h1 : i = xs.length
    ·
      repeat (first | refine RunsE.seq ?_ | refine RunsE.skip ?_ | refine RunsE.block ?_ | refine RunsE.inBlock ?_ | refine RunsE.yes rfl ?_ | refine RunsE.no rfl ?_ | refine RunsE.exit rfl ?_)
      refine RunsE.region ?_
      refine OpsE.ev (Ev.lss (r := false) rfl rfl (decide_eq_false (by omega))) rfl ?_
      refine OpsE.nil ?_
      repeat refine RunsE.seq ?_
      refine RunsE.no rfl ?_
      refine RunsE.exit rfl ?_
      exact next () _ _ ⟨fun k hk => hne k (by omega), H⟩ trivial
    clear next
    have hi' : i < xs.length := by omega
    obtain ⟨b, cp', ev, _⟩ := hs.row (by omega)
    cases ev
    repeat (first | refine RunsE.seq ?_ | refine RunsE.skip ?_ | refine RunsE.block ?_ | refine RunsE.inBlock ?_ | refine RunsE.yes rfl ?_ | refine RunsE.no rfl ?_ | refine RunsE.exit rfl ?_)
    refine RunsE.region ?_
    refine OpsE.ev (Ev.lss (r := true) rfl rfl (decide_eq_true (by omega))) rfl ?_
    refine OpsE.nil ?_
    repeat (first | refine RunsE.seq ?_ | refine RunsE.skip ?_ | refine RunsE.block ?_ | refine RunsE.inBlock ?_ | refine RunsE.yes rfl ?_ | refine RunsE.no rfl ?_ | refine RunsE.exit rfl ?_)
    refine RunsE.region ?_
    refine OpsE.ev (Ev.move rfl) rfl ?_
    refine OpsE.ev (Ev.assign rfl) rfl ?_
    refine OpsE.nil ?_
    repeat (first | refine RunsE.seq ?_ | refine RunsE.skip ?_ | refine RunsE.block ?_ | refine RunsE.inBlock ?_ | refine RunsE.yes rfl ?_ | refine RunsE.no rfl ?_ | refine RunsE.exit rfl ?_)
    refine RunsE.region ?_
    refine OpsE.ev (Ev.move rfl) rfl ?_
    refine OpsE.ev (Ev.move rfl) rfl ?_
    refine OpsE.ev (Ev.move rfl) rfl ?_
    refine OpsE.ev (Ev.iaSl (n := 46) (sz := 3) (m := i) (o := i * 3) rfl rfl rfl (by kernel_rfl) (by omega) (Nat.zero_add _)) rfl ?_
    refine OpsE.ev (Ev.loadAgg (vs := gE (at' xs i)) H rfl (by kernel_rfl) (fun k v hk => by rw [add_none]; exact hs.rdEl (fun _ => rfl) (at_some hi') k v hk)) rfl ?_
    refine OpsE.ex (Ex.callv rfl rfl Tryd.call23 (cancelfn_spec (at' xs i) id c w _ hc.right H)) rfl ?_; (try clear H); rintro _ w ⟨rfl, H⟩
    refine OpsE.nil ?_
    by_cases h2 : ((at' xs i).id : Int) = id
    · repeat refine RunsE.seq ?_
      refine RunsE.yes (by rw [decide_eq_true h2]; rfl) ?_
      repeat (first | refine RunsE.seq ?_ | refine RunsE.skip ?_ | refine RunsE.block ?_ | refine RunsE.inBlock ?_ | refine RunsE.yes rfl ?_ | refine RunsE.no rfl ?_ | refine RunsE.exit rfl ?_)
      refine RunsE.region ?_
      refine OpsE.ev (Ev.move rfl) rfl ?_
      refine OpsE.ev (Ev.assign rfl) rfl ?_
      refine OpsE.nil ?_
      repeat (first | refine RunsE.seq ?_ | refine RunsE.skip ?_ | refine RunsE.block ?_ | refine RunsE.inBlock ?_ | refine RunsE.yes rfl ?_ | refine RunsE.no rfl ?_ | refine RunsE.exit rfl ?_)
      exact RunsE.ret1 Tryd.func22 rfl rfl ⟨.inr ⟨i, hi', rfl, h2⟩, H⟩
    · repeat refine RunsE.seq ?_
      refine RunsE.no (by rw [decide_eq_false h2]; rfl) ?_
      repeat (first | refine RunsE.seq ?_ | refine RunsE.skip ?_ | refine RunsE.block ?_ | refine RunsE.inBlock ?_ | refine RunsE.yes rfl ?_ | refine RunsE.no rfl ?_ | refine RunsE.exit rfl ?_)
      refine RunsE.region ?_
      refine OpsE.ev (Ev.add rfl rfl) rfl ?_
      refine OpsE.ev (Ev.move rfl) rfl ?_
      refine OpsE.nil ?_
      refine nextL (i + 1) _ _ (by omega) ⟨by omega, fun k hk => ?_, H⟩ ⟨rfl, rfl, rfl, rfl, trivial⟩
      rcases Nat.lt_or_eq_of_le (Nat.le_of_lt_succ hk) with h | h
      · exact hne k h
      · rw [h]; exact h2
  clear H
  rintro _ w ⟨hne, H⟩
  repeat (first | refine RunsE.seq ?_ | refine RunsE.skip ?_ | refine RunsE.block ?_ | refine RunsE.inBlock ?_ | refine RunsE.yes rfl ?_ | refine RunsE.no rfl ?_ | refine RunsE.exit rfl ?_)
  refine RunsE.region ?_
  refine OpsE.ev (Ev.assign rfl) rfl ?_
  refine OpsE.nil ?_
  repeat (first | refine RunsE.seq ?_ | refine RunsE.skip ?_ | refine RunsE.block ?_ | refine RunsE.inBlock ?_ | refine RunsE.yes rfl ?_ | refine RunsE.no rfl ?_ | refine RunsE.exit rfl ?_)
  exact RunsE.ret1 Tryd.func22 rfl rfl ⟨.inl ⟨rfl, hne⟩, H⟩

theorem ncancel_spec [Strm] (id : Int) (w : World) (F : List (Nat × Obj)) (H : SL w F) : Does Tryd.prog 13 #[.pointer none, .int .i64 id] w fun r w' => r = TEr 1 ∧ SL w' F := by
  refine Does.intro (args := [_, _]) (e := [(0, _), (1, _)]) Tryd.func13 rfl Tryd.ntmps13 rfl rfl ?_
  repeat (first | refine RunsE.seq ?_ | refine RunsE.skip ?_ | refine RunsE.block ?_ | refine RunsE.inBlock ?_ | refine RunsE.yes rfl ?_ | refine RunsE.no rfl ?_ | refine RunsE.exit rfl ?_)
  repeat (first | refine RunsE.seq ?_ | refine RunsE.skip ?_ | refine RunsE.block ?_ | refine RunsE.inBlock ?_ | refine RunsE.yes rfl ?_ | refine RunsE.no rfl ?_ | refine RunsE.exit rfl ?_)
  refine RunsE.region ?_
  refine OpsE.ex (Ex.box H rfl) rfl ?_; (try clear H); rintro _ w ⟨b3, rfl, H⟩; simp only [Value.cells] at H
  refine OpsE.ev (Ev.assign rfl) rfl ?_
  refine OpsE.nil ?_
  repeat (first | refine RunsE.seq ?_ | refine RunsE.skip ?_ | refine RunsE.block ?_ | refine RunsE.inBlock ?_ | refine RunsE.yes rfl ?_ | refine RunsE.no rfl ?_ | refine RunsE.exit rfl ?_)
  refine RunsE.region ?_
  refine OpsE.ev (Ev.move rfl) rfl ?_
  refine OpsE.ev (Ev.ptrNilEq (el := 62) rfl rfl (by kernel_rfl)) rfl ?_
  refine OpsE.nil ?_
  repeat (first | refine RunsE.seq ?_ | refine RunsE.skip ?_ | refine RunsE.block ?_ | refine RunsE.inBlock ?_ | refine RunsE.yes rfl ?_ | refine RunsE.no rfl ?_ | refine RunsE.exit rfl ?_)
  refine RunsE.region ?_
  refine OpsE.ev (Ev.makeInterface (d := (.int .i64)) rfl (by kernel_rfl) rfl) rfl ?_
  refine OpsE.ev (Ev.assign rfl) rfl ?_
  refine OpsE.nil ?_
  repeat (first | refine RunsE.seq ?_ | refine RunsE.skip ?_ | refine RunsE.block ?_ | refine RunsE.inBlock ?_ | refine RunsE.yes rfl ?_ | refine RunsE.no rfl ?_ | refine RunsE.exit rfl ?_)
  exact RunsE.ret1 Tryd.func13 rfl rfl ⟨rfl, H.drop⟩

theorem cancel_spec [Strm] (b : Nat) (xs : List TEv) (last : Nat) (id : Int) (hx : xs.length ≤ 1000000) (A : List (Nat × Obj)) (w : World) (F : List (Nat × Obj)) (hA : QH b xs last A) (H : SL w (A ++ F)) :
    Does Tryd.prog 13 #[.pointer (some ⟨b, 0, none⟩), .int .i64 id] w fun r w' => ∃ ys A', ((r = TEr 8 ∧ ys = xs ∧ ∀ e ∈ xs, (e.id : Int) ≠ id) ∨ (r = .nilIface ∧ ∃ e, (e.id : Int) = id ∧ (e :: ys).Perm xs)) ∧ QH b ys last A' ∧ SL w' (A' ++ F) := by
  obtain ⟨v, B, hs, hh⟩ := hA
  obtain ⟨a, c, rfl⟩ := hs.len
  rw [List.append_assoc] at H
  refine Does.intro (args := [_, _]) (e := [(0, _), (1, _)]) Tryd.func13 rfl Tryd.ntmps13 rfl rfl ?_
  repeat (first | refine RunsE.seq ?_ | refine RunsE.skip ?_ | refine RunsE.block ?_ | refine RunsE.inBlock ?_ | refine RunsE.yes rfl ?_ | refine RunsE.no rfl ?_ | refine RunsE.exit rfl ?_)
  repeat (first | refine RunsE.seq ?_ | refine RunsE.skip ?_ | refine RunsE.block ?_ | refine RunsE.inBlock ?_ | refine RunsE.yes rfl ?_ | refine RunsE.no rfl ?_ | refine RunsE.exit rfl ?_)
  refine RunsE.region ?_
  refine OpsE.ex (Ex.box H rfl) rfl ?_; (try clear H); rintro _ w ⟨b3, rfl, H⟩; simp only [Value.cells] at H
  refine OpsE.ev (Ev.assign rfl) rfl ?_
  refine OpsE.nil ?_
  replace H : SL w (B ++ (qC b last (.slice a xs.length c) :: ((b3, .cells #[.int .i64 id] 3 (0, 0)) :: F))) := H.perm ((List.Perm.swap _ _ _).append_left B |>.trans List.perm_middle)
  repeat (first | refine RunsE.seq ?_ | refine RunsE.skip ?_ | refine RunsE.block ?_ | refine RunsE.inBlock ?_ | refine RunsE.yes rfl ?_ | refine RunsE.no rfl ?_ | refine RunsE.exit rfl ?_)
  refine RunsE.region ?_
  refine OpsE.ev (Ev.move rfl) rfl ?_
  refine OpsE.ev (Ev.ptrNilEq (el := 62) rfl rfl (by kernel_rfl)) rfl ?_
  refine OpsE.nil ?_
  repeat (first | refine RunsE.seq ?_ | refine RunsE.skip ?_ | refine RunsE.block ?_ | refine RunsE.inBlock ?_ | refine RunsE.yes rfl ?_ | refine RunsE.no rfl ?_ | refine RunsE.exit rfl ?_)
  refine RunsE.region ?_
  refine OpsE.ev (Ev.move rfl) rfl ?_
  refine OpsE.ev (Ev.nilCheck rfl) rfl ?_
  refine OpsE.ev (Ev.fieldAddr (o := 0) rfl (by kernel_rfl)) rfl ?_
  refine OpsE.ev (Ev.load H rfl (by kernel_rfl) (Rd.right (Rd.mk m0 rfl))) rfl ?_
  refine OpsE.ev (Ev.makeFunc rfl rfl) rfl ?_
  refine OpsE.ex (Ex.call rfl Tryd.call22 (indexf_spec _ xs id b3 hx w _ _ hs (Rd.mk m1 rfl) H)) rfl ?_; (try clear H); rintro r w ⟨hr, H⟩
  refine OpsE.ev (Ev.assign rfl) rfl ?_
  refine OpsE.nil ?_
  rcases hr with ⟨rfl, hne⟩ | ⟨i, hi, rfl, hid⟩
  ·
    repeat (first | refine RunsE.seq ?_ | refine RunsE.skip ?_ | refine RunsE.block ?_ | refine RunsE.inBlock ?_ | refine RunsE.yes rfl ?_ | refine RunsE.no rfl ?_ | refine RunsE.exit rfl ?_)
    refine RunsE.region ?_
    refine OpsE.ev (Ev.move rfl) rfl ?_
    refine OpsE.ev (Ev.lss (r := true) rfl rfl rfl) rfl ?_
    refine OpsE.nil ?_
    repeat (first | refine RunsE.seq ?_ | refine RunsE.skip ?_ | refine RunsE.block ?_ | refine RunsE.inBlock ?_ | refine RunsE.yes rfl ?_ | refine RunsE.no rfl ?_ | refine RunsE.exit rfl ?_)
    refine RunsE.region ?_
    refine OpsE.ev (Ev.makeInterface (d := (.int .i64)) rfl (by kernel_rfl) rfl) rfl ?_
    refine OpsE.ev (Ev.assign rfl) rfl ?_
    refine OpsE.nil ?_
    repeat (first | refine RunsE.seq ?_ | refine RunsE.skip ?_ | refine RunsE.block ?_ | refine RunsE.inBlock ?_ | refine RunsE.yes rfl ?_ | refine RunsE.no rfl ?_ | refine RunsE.exit rfl ?_)
    refine RunsE.ret1 Tryd.func13 rfl rfl ⟨xs, _, .inl ⟨rfl, rfl, fun e he => ?_⟩, .mk _ B hs hh, by rw [List.append_assoc]; exact (H.sublist ((List.Sublist.cons_cons _ (List.sublist_cons_self _ _)).append_left B))⟩
    obtain ⟨k, hk⟩ := List.getElem?_of_mem he
    have hlt : k < xs.length := by
      rcases Nat.lt_or_ge k xs.length with h | h
      · exact h
      · rw [List.getElem?_eq_none h] at hk; cases hk
    rw [at_some hlt] at hk
    rw [← Option.some.inj hk]
    exact hne k hlt
  ·
    repeat (first | refine RunsE.seq ?_ | refine RunsE.skip ?_ | refine RunsE.block ?_ | refine RunsE.inBlock ?_ | refine RunsE.yes rfl ?_ | refine RunsE.no rfl ?_ | refine RunsE.exit rfl ?_)
    refine RunsE.region ?_
    refine OpsE.ev (Ev.move rfl) rfl ?_
    refine OpsE.ev (Ev.lss (r := false) rfl rfl (decide_eq_false (by omega))) rfl ?_
    refine OpsE.nil ?_
    repeat (first | refine RunsE.seq ?_ | refine RunsE.skip ?_ | refine RunsE.block ?_ | refine RunsE.inBlock ?_ | refine RunsE.yes rfl ?_ | refine RunsE.no rfl ?_ | refine RunsE.exit rfl ?_)
    refine RunsE.region ?_
    refine OpsE.ev (Ev.move rfl) rfl ?_
    refine OpsE.ev (Ev.nilCheck rfl) rfl ?_
    refine OpsE.ev (Ev.fieldAddr (o := 0) rfl (by kernel_rfl)) rfl ?_
    refine OpsE.ev (Ev.makeInterface rfl Tryd.underlying65 rfl) rfl ?_
    refine OpsE.ev (Ev.move rfl) rfl ?_
    refine OpsE.ex (Ex.call rfl Tryd.call24 (hremove_spec _ xs i b last hx hi hh w _ _ hs H)) rfl ?_; (try clear H); rintro r w ⟨v', ys, B, hp, hh, hs, H⟩
    refine OpsE.nil ?_
    repeat (first | refine RunsE.seq ?_ | refine RunsE.skip ?_ | refine RunsE.block ?_ | refine RunsE.inBlock ?_ | refine RunsE.yes rfl ?_ | refine RunsE.no rfl ?_ | refine RunsE.exit rfl ?_)
    refine RunsE.region ?_
    refine OpsE.ev (Ev.assign rfl) rfl ?_
    refine OpsE.nil ?_
    repeat (first | refine RunsE.seq ?_ | refine RunsE.skip ?_ | refine RunsE.block ?_ | refine RunsE.inBlock ?_ | refine RunsE.yes rfl ?_ | refine RunsE.no rfl ?_ | refine RunsE.exit rfl ?_)
    exact RunsE.ret1 Tryd.func13 rfl rfl ⟨ys, _, .inr ⟨rfl, _, hid, hp⟩, .mk v' B hs hh, by rw [List.append_assoc]; exact (H.sublist ((List.Sublist.cons_cons _ (List.sublist_cons_self _ _)).append_left B))⟩

theorem eclone_spec [Strm] (v : Value) (xs : List TEv) (hx : xs.length ≤ 1000000) (w : World) (B F : List (Nat × Obj)) (hs : SlE v xs B) (H : SL w (B ++ F)) :
    Does Tryd.prog 21 #[v] w fun r w' => ∃ B', SlE r xs B' ∧ SL w' (B' ++ (B ++ F)) := by
  obtain ⟨a, c, rfl, hc⟩ := hs.leCap
  refine Does.intro (args := [_]) (e := [(0, _)]) Tryd.func21 rfl Tryd.ntmps21 rfl rfl ?_
  repeat (first | refine RunsE.seq ?_ | refine RunsE.skip ?_ | refine RunsE.block ?_ | refine RunsE.inBlock ?_ | refine RunsE.yes rfl ?_ | refine RunsE.no rfl ?_ | refine RunsE.exit rfl ?_)
  cases a with
  | none =>
    obtain rfl : xs = [] := by
      rcases Nat.eq_zero_or_pos xs.length with h | h
      · exact List.eq_nil_of_length_eq_zero h
      · obtain ⟨b, c', e, _⟩ := hs.row h; cases e
    repeat (first | refine RunsE.seq ?_ | refine RunsE.skip ?_ | refine RunsE.block ?_ | refine RunsE.inBlock ?_ | refine RunsE.yes rfl ?_ | refine RunsE.no rfl ?_ | refine RunsE.exit rfl ?_)
    refine RunsE.region ?_
    refine OpsE.ev (Ev.assign rfl) rfl ?_
    refine OpsE.nil ?_
    repeat (first | refine RunsE.seq ?_ | refine RunsE.skip ?_ | refine RunsE.block ?_ | refine RunsE.inBlock ?_ | refine RunsE.yes rfl ?_ | refine RunsE.no rfl ?_ | refine RunsE.exit rfl ?_)
    refine RunsE.region ?_
    refine OpsE.ev (Ev.move rfl) rfl ?_
    refine OpsE.ev (Ev.slNilEq (a := none) rfl rfl Tryd.underlying60) rfl ?_
    refine OpsE.nil ?_
    repeat (first | refine RunsE.seq ?_ | refine RunsE.skip ?_ | refine RunsE.block ?_ | refine RunsE.inBlock ?_ | refine RunsE.yes rfl ?_ | refine RunsE.no rfl ?_ | refine RunsE.exit rfl ?_)
    refine RunsE.region ?_
    refine OpsE.ev (Ev.assign rfl) rfl ?_
    refine OpsE.nil ?_
    repeat (first | refine RunsE.seq ?_ | refine RunsE.skip ?_ | refine RunsE.block ?_ | refine RunsE.inBlock ?_ | refine RunsE.yes rfl ?_ | refine RunsE.no rfl ?_ | refine RunsE.exit rfl ?_)
    exact RunsE.ret1 Tryd.func21 rfl rfl ⟨[], .nil, H⟩
  | some a =>
    repeat (first | refine RunsE.seq ?_ | refine RunsE.skip ?_ | refine RunsE.block ?_ | refine RunsE.inBlock ?_ | refine RunsE.yes rfl ?_ | refine RunsE.no rfl ?_ | refine RunsE.exit rfl ?_)
    refine RunsE.region ?_
    refine OpsE.ev (Ev.assign rfl) rfl ?_
    refine OpsE.nil ?_
    repeat (first | refine RunsE.seq ?_ | refine RunsE.skip ?_ | refine RunsE.block ?_ | refine RunsE.inBlock ?_ | refine RunsE.yes rfl ?_ | refine RunsE.no rfl ?_ | refine RunsE.exit rfl ?_)
    refine RunsE.region ?_
    refine OpsE.ev (Ev.move rfl) rfl ?_
    refine OpsE.ev (Ev.slNilEq (a := some a) rfl rfl Tryd.underlying60) rfl ?_
    refine OpsE.nil ?_
    repeat (first | refine RunsE.seq ?_ | refine RunsE.skip ?_ | refine RunsE.block ?_ | refine RunsE.inBlock ?_ | refine RunsE.yes rfl ?_ | refine RunsE.no rfl ?_ | refine RunsE.exit rfl ?_)
    refine RunsE.region ?_
    refine OpsE.ex (Ex.buildSl0 (sz := 3) (T := 46) H (by kernel_rfl)) rfl ?_; (try clear H); rintro _ w ⟨b5, rfl, H⟩
    refine OpsE.ev (Ev.move rfl) rfl ?_
    refine OpsE.ex (Ex.append (T := 46) (g := gE) (sz := 3) (by_ := 32) (zv := zE) (xs := []) (ys := xs) (B := [(b5, .cells #[] 46 (0, 0))]) H rfl rfl (Slc.lit0 b5) (Src.own (fun _ => rfl) hs H fun p hp => by simp [hp]) (fun _ => rfl) gE_one (by kernel_rfl) (by kernel_rfl) (by kernel_rfl) (by kernel_rfl) rfl (by simp only [List.length_nil]; omega) (by simp only [List.length_nil]; omega)) rfl ?_; (try clear H); rintro v' w ⟨B', hs', H⟩
    refine OpsE.ev (Ev.assign rfl) rfl ?_
    refine OpsE.nil ?_
    repeat (first | refine RunsE.seq ?_ | refine RunsE.skip ?_ | refine RunsE.block ?_ | refine RunsE.inBlock ?_ | refine RunsE.yes rfl ?_ | refine RunsE.no rfl ?_ | refine RunsE.exit rfl ?_)
    exact RunsE.ret1 Tryd.func21 rfl rfl ⟨B', hs', H⟩

theorem nevents_spec [Strm] (w : World) (F : List (Nat × Obj)) (H : SL w F) : Does Tryd.prog 11 #[.pointer none] w fun r w' => r = .slice none 0 0 ∧ SL w' F := by
  refine Does.intro (args := [_]) (e := [(0, _)]) Tryd.func11 rfl Tryd.ntmps11 rfl rfl ?_
  repeat (first | refine RunsE.seq ?_ | refine RunsE.skip ?_ | refine RunsE.block ?_ | refine RunsE.inBlock ?_ | refine RunsE.yes rfl ?_ | refine RunsE.no rfl ?_ | refine RunsE.exit rfl ?_)
  repeat (first | refine RunsE.seq ?_ | refine RunsE.skip ?_ | refine RunsE.block ?_ | refine RunsE.inBlock ?_ | refine RunsE.yes rfl ?_ | refine RunsE.no rfl ?_ | refine RunsE.exit rfl ?_)
  refine RunsE.region ?_
  refine OpsE.ev (Ev.assign rfl) rfl ?_
  refine OpsE.nil ?_
  repeat (first | refine RunsE.seq ?_ | refine RunsE.skip ?_ | refine RunsE.block ?_ | refine RunsE.inBlock ?_ | refine RunsE.yes rfl ?_ | refine RunsE.no rfl ?_ | refine RunsE.exit rfl ?_)
  refine RunsE.region ?_
  refine OpsE.ev (Ev.move rfl) rfl ?_
  refine OpsE.ev (Ev.ptrNilEq (el := 62) rfl rfl (by kernel_rfl)) rfl ?_
  refine OpsE.nil ?_
  repeat (first | refine RunsE.seq ?_ | refine RunsE.skip ?_ | refine RunsE.block ?_ | refine RunsE.inBlock ?_ | refine RunsE.yes rfl ?_ | refine RunsE.no rfl ?_ | refine RunsE.exit rfl ?_)
  refine RunsE.region ?_
  refine OpsE.ev (Ev.assign rfl) rfl ?_
  refine OpsE.nil ?_
  repeat (first | refine RunsE.seq ?_ | refine RunsE.skip ?_ | refine RunsE.block ?_ | refine RunsE.inBlock ?_ | refine RunsE.yes rfl ?_ | refine RunsE.no rfl ?_ | refine RunsE.exit rfl ?_)
  exact RunsE.ret1 Tryd.func11 rfl rfl ⟨rfl, H⟩

theorem events_spec [Strm] (b : Nat) (xs : List TEv) (last : Nat) (hx : xs.length ≤ 1000000) (hd : ∀ e ∈ xs, e.due ≤ 1099511627776) (A : List (Nat × Obj)) (w : World) (F : List (Nat × Obj)) (hA : QH b xs last A) (H : SL w (A ++ F)) :
    Does Tryd.prog 11 #[.pointer (some ⟨b, 0, none⟩)] w fun r w' => ∃ out B, SlE r out B ∧ out.Perm xs ∧ out.Pairwise TEv.le ∧ SL w' (B ++ (A ++ F)) := by
  obtain ⟨v, B, hs, hh⟩ := hA
  obtain ⟨a, c, rfl⟩ := hs.len
  rw [List.append_assoc] at H ⊢
  refine Does.intro (args := [_]) (e := [(0, _)]) Tryd.func11 rfl Tryd.ntmps11 rfl rfl ?_
  repeat (first | refine RunsE.seq ?_ | refine RunsE.skip ?_ | refine RunsE.block ?_ | refine RunsE.inBlock ?_ | refine RunsE.yes rfl ?_ | refine RunsE.no rfl ?_ | refine RunsE.exit rfl ?_)
  repeat (first | refine RunsE.seq ?_ | refine RunsE.skip ?_ | refine RunsE.block ?_ | refine RunsE.inBlock ?_ | refine RunsE.yes rfl ?_ | refine RunsE.no rfl ?_ | refine RunsE.exit rfl ?_)
  refine RunsE.region ?_
  refine OpsE.ev (Ev.assign rfl) rfl ?_
  refine OpsE.nil ?_
  repeat (first | refine RunsE.seq ?_ | refine RunsE.skip ?_ | refine RunsE.block ?_ | refine RunsE.inBlock ?_ | refine RunsE.yes rfl ?_ | refine RunsE.no rfl ?_ | refine RunsE.exit rfl ?_)
  refine RunsE.region ?_
  refine OpsE.ev (Ev.move rfl) rfl ?_
  refine OpsE.ev (Ev.ptrNilEq (el := 62) rfl rfl (by kernel_rfl)) rfl ?_
  refine OpsE.nil ?_
  repeat (first | refine RunsE.seq ?_ | refine RunsE.skip ?_ | refine RunsE.block ?_ | refine RunsE.inBlock ?_ | refine RunsE.yes rfl ?_ | refine RunsE.no rfl ?_ | refine RunsE.exit rfl ?_)
  refine RunsE.region ?_
  refine OpsE.ev (Ev.move rfl) rfl ?_
  refine OpsE.ev (Ev.nilCheck rfl) rfl ?_
  refine OpsE.ev (Ev.fieldAddr (o := 0) rfl (by kernel_rfl)) rfl ?_
  refine OpsE.ev (Ev.load H rfl (by kernel_rfl) (Rd.right (Rd.mk m0 rfl))) rfl ?_
  refine OpsE.ex (Ex.call rfl Tryd.call21 (eclone_spec _ xs hx w _ _ hs H)) rfl ?_; (try clear H); rintro r w ⟨B', hs', H⟩; obtain ⟨a', c', rfl⟩ := hs'.len
  refine OpsE.ev (Ev.buildSt (pl := [(0, 1), (1, 1)]) (zv := .agg #[.slice none 0 0, .int .i64 0]) rfl (by kernel_rfl) (by kernel_rfl) rfl) rfl ?_
  refine OpsE.ex (Ex.alloc (zv := .agg #[.slice none 0 0, .int .i64 0]) H (by kernel_rfl)) rfl ?_; (try clear H); rintro _ w ⟨b3, rfl, H⟩; simp only [Value.cells] at H
  refine OpsE.exn (Ex.storeBlk (n := 2) (vs := [.slice a' xs.length c', .int .i64 0]) H rfl rfl (by kernel_rfl) rfl (by simp [Value.oneCell']) u0 rfl (Thaw.zero _ _)) ?_; (try clear H); intro _ w H; replace H := H.mid
  refine OpsE.nil ?_
  replace H : SL w ((B' ++ [qC b3 0 (.slice a' xs.length c')]) ++ (B ++ ([qC b last (.slice a xs.length c)] ++ F))) := by rw [List.append_assoc]; exact H
  repeat (first | refine RunsE.seq ?_ | refine RunsE.skip ?_ | refine RunsE.block ?_ | refine RunsE.inBlock ?_ | refine RunsE.yes rfl ?_ | refine RunsE.no rfl ?_ | refine RunsE.exit rfl ?_)
  refine RunsE.region ?_
  refine OpsE.ex (Ex.call rfl Tryd.call14 (tpop_spec b3 xs 0 1099511627776 hx _ w _ (.mk _ B' hs' hh) H)) rfl ?_; (try clear H); rintro r w ⟨out, ys, Bo, A', hso, hp, hA', H⟩
  refine OpsE.ev (Ev.assign rfl) rfl ?_
  refine OpsE.nil ?_
  repeat (first | refine RunsE.seq ?_ | refine RunsE.skip ?_ | refine RunsE.block ?_ | refine RunsE.inBlock ?_ | refine RunsE.yes rfl ?_ | refine RunsE.no rfl ?_ | refine RunsE.exit rfl ?_)
  have hys : ys = [] := List.eq_nil_iff_forall_not_mem.2 fun a ha => by
    have h1 := hp.rest a ha
    have h2 := hd a (hp.perm.subset (List.mem_append_right _ ha))
    omega
  have hperm := hp.perm
  rw [hys, List.append_nil] at hperm
  exact RunsE.ret1 Tryd.func11 rfl rfl ⟨out, Bo, hso, hperm, hp.sorted, H.dropIn⟩

end Go.Proofs.YtgeocehgobcdjaaDoor
