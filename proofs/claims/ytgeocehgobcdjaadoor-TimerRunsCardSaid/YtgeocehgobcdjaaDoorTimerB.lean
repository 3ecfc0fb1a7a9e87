/-
  container/heap at the timer's events: up, down, Push, Pop.
-/
import Derived.Test.YtgeocehgobcdjaaDoorTimerA
namespace Go.Proofs.YtgeocehgobcdjaaDoor.V

theorem tdiv_par {j : Nat} (h : j ≤ 1000000) : IntKind.i64.wrap (((j : Int) - 1).tdiv 2) = (par j : Int) := by
  cases j with
  | zero => decide +kernel
  | succ k =>
    have e1 : (((k + 1 : Nat) : Int) - 1) = (k : Int) := by omega
    rw [e1, show ((k : Int)).tdiv 2 = ((k / 2 : Nat) : Int) from qquo k 2, qi64 (by omega) (by omega)]
    unfold par
    simp

end Go.Proofs.YtgeocehgobcdjaaDoor.V
namespace Go.Proofs.YtgeocehgobcdjaaDoor
open Go.Proofs.YtgeocehgobcdjaaDoor.V

/-- The queue's block. -/
abbrev qC (b last : Nat) (v : Value) : Nat × Obj := (b, .cells #[v, .int .i64 (last : Int)] 62 (0, 0))
/-- The queue as a heap.Interface. -/
abbrev hV (b : Nat) : Value := .iface 65 (.pointer (some ⟨b, 0, none⟩))

theorem m_len [Strm] {b last : Nat} {v : Value} {w : World} {B F : List (Nat × Obj)} (H : SL w (B ++ (qC b last v :: F))) (n : Nat) : (method (n + 1) 65 (.pointer (some ⟨b, 0, none⟩)) "Len").run Tryd.prog w = .ok (54, v) w :=
  run_method_val (by kernel_rfl) Tryd.underlying65 (by kernel_rfl) (Rd.cell H (Rd.right (Rd.mk m0 rfl)))
theorem m_less [Strm] {b last : Nat} {v : Value} {w : World} {B F : List (Nat × Obj)} (H : SL w (B ++ (qC b last v :: F))) (n : Nat) : (method (n + 1) 65 (.pointer (some ⟨b, 0, none⟩)) "Less").run Tryd.prog w = .ok (55, v) w :=
  run_method_val (by kernel_rfl) Tryd.underlying65 (by kernel_rfl) (Rd.cell H (Rd.right (Rd.mk m0 rfl)))
theorem m_swap [Strm] {b last : Nat} {v : Value} {w : World} {B F : List (Nat × Obj)} (H : SL w (B ++ (qC b last v :: F))) (n : Nat) : (method (n + 1) 65 (.pointer (some ⟨b, 0, none⟩)) "Swap").run Tryd.prog w = .ok (56, v) w :=
  run_method_val (by kernel_rfl) Tryd.underlying65 (by kernel_rfl) (Rd.cell H (Rd.right (Rd.mk m0 rfl)))
theorem m_push {u : Value} {w : World} (n : Nat) : (method (n + 1) 65 u "Push").run Tryd.prog w = .ok (59, u) w :=
  run_method_ptr (by kernel_rfl) Tryd.underlying65
theorem m_pop {u : Value} {w : World} (n : Nat) : (method (n + 1) 65 u "Pop").run Tryd.prog w = .ok (58, u) w :=
  run_method_ptr (by kernel_rfl) Tryd.underlying65

theorem up_spec [Strm] (v : Value) (xs : List TEv) (n j b last : Nat) (hx : xs.length ≤ 1000000) (hn : n ≤ xs.length) (hj : j < n) (hup : UpAt xs n j) (w : World) (B F : List (Nat × Obj)) (hs : SlE v xs B) (H : SL w (B ++ (qC b last v :: F))) :
    Does Tryd.prog 26 #[hV b, .int .i64 (j : Int)] w fun r w' => r = .tuple #[] ∧ ∃ ys B', ys.Perm xs ∧ (∀ k, n ≤ k → at' ys k = at' xs k) ∧ IsHeap ys n ∧ SlE v ys B' ∧ SL w' (B' ++ (qC b last v :: F)) := by
  refine Does.intro (args := [_, _]) (e := [(0, _), (1, _)]) Tryd.func26 rfl Tryd.ntmps26 rfl rfl ?_
  repeat (first | refine RunsE.seq ?_ | refine RunsE.skip ?_ | refine RunsE.block ?_ | refine RunsE.inBlock ?_ | refine RunsE.yes rfl ?_ | refine RunsE.no rfl ?_ | refine RunsE.exit rfl ?_)
  refine RunsE.loop (fun s : Nat × List TEv => [(0, hV b), (1, .int .i64 (s.1 : Int))])
    (fun s w => s.1 < n ∧ s.2.Perm xs ∧ (∀ k, n ≤ k → at' s.2 k = at' xs k) ∧ UpAt s.2 n s.1 ∧ ∃ B, SlE v s.2 B ∧ SL w (B ++ (qC b last v :: F))) (fun s => s.1) (j, xs) ⟨rfl, rfl, trivial⟩ ⟨hj, .refl _, fun _ _ => rfl, hup, B, hs, H⟩ ?_
  clear H hs B hup hj j
  rintro ⟨j, ys⟩ w ⟨hj, hperm, htail, hup, B, hs, H⟩ nextL
  simp only at hj hperm htail hup hs
  have hyl := hperm.length_eq
  by_cases h0 : j = 0
  ·
    repeat (first | refine RunsE.seq ?_ | refine RunsE.skip ?_ | refine RunsE.block ?_ | refine RunsE.inBlock ?_ | refine RunsE.yes rfl ?_ | refine RunsE.no rfl ?_ | refine RunsE.exit rfl ?_)
    refine RunsE.region ?_
    refine OpsE.ev (Ev.move rfl) rfl ?_
    refine OpsE.ev (Ev.sub (c := (j : Int) - 1) rfl rfl (qi64 (by simp only; omega) (by simp only; omega))) rfl ?_
    refine OpsE.ev (Ev.quo (c := (par j : Int)) rfl rfl (by omega) (tdiv_par (by omega))) rfl ?_
    refine OpsE.ev (Ev.assign rfl) rfl ?_
    refine OpsE.nil ?_
    repeat (first | refine RunsE.seq ?_ | refine RunsE.skip ?_ | refine RunsE.block ?_ | refine RunsE.inBlock ?_ | refine RunsE.yes rfl ?_ | refine RunsE.no rfl ?_ | refine RunsE.exit rfl ?_)
    refine RunsE.region ?_
    refine OpsE.ev (Ev.move rfl) rfl ?_
    refine OpsE.ev (Ev.move rfl) rfl ?_
    refine OpsE.ev (Ev.eql (r := true) rfl rfl (beq_iff_eq.2 (by subst h0; rfl))) rfl ?_
    refine OpsE.ev (Ev.move rfl) rfl ?_
    first | (refine OpsE.yes rfl rfl ?_; refine OpsE.ev (Ev.move rfl) rfl ?_) | refine OpsE.no rfl rfl rfl ?_ | refine OpsE.off rfl rfl rfl ?_
    first | (refine OpsE.yes rfl rfl ?_; refine OpsE.ev (Ev.move rfl) rfl ?_) | refine OpsE.no rfl rfl rfl ?_ | refine OpsE.off rfl rfl rfl ?_
    first | (refine OpsE.yes rfl rfl ?_; refine OpsE.ev (Ev.move rfl) rfl ?_) | refine OpsE.no rfl rfl rfl ?_ | refine OpsE.off rfl rfl rfl ?_
    first | (refine OpsE.yes rfl rfl ?_; refine OpsE.ev (Ev.move rfl) rfl ?_) | refine OpsE.no rfl rfl rfl ?_ | refine OpsE.off rfl rfl rfl ?_
    first | (refine OpsE.yes rfl rfl ?_; refine OpsE.ev (Ev.not rfl) rfl ?_) | refine OpsE.no rfl rfl rfl ?_ | refine OpsE.off rfl rfl rfl ?_
    refine OpsE.ev ((by first | exact Ev.pickT rfl rfl | exact Ev.pickF rfl rfl)) rfl ?_
    refine OpsE.nil ?_
    repeat refine RunsE.seq ?_
    refine RunsE.yes rfl ?_
    refine RunsE.exit rfl ?_
    exact RunsE.end0 Tryd.func26 rfl ⟨rfl, ys, B, hperm, htail, up_done hup (.inl h0), hs, H⟩
  have hpj : par j < j := by unfold par; omega
  repeat (first | refine RunsE.seq ?_ | refine RunsE.skip ?_ | refine RunsE.block ?_ | refine RunsE.inBlock ?_ | refine RunsE.yes rfl ?_ | refine RunsE.no rfl ?_ | refine RunsE.exit rfl ?_)
  refine RunsE.region ?_
  refine OpsE.ev (Ev.move rfl) rfl ?_
  refine OpsE.ev (Ev.sub (c := (j : Int) - 1) rfl rfl (qi64 (by simp only; omega) (by simp only; omega))) rfl ?_
  refine OpsE.ev (Ev.quo (c := (par j : Int)) rfl rfl (by omega) (tdiv_par (by omega))) rfl ?_
  refine OpsE.ev (Ev.assign rfl) rfl ?_
  refine OpsE.nil ?_
  repeat (first | refine RunsE.seq ?_ | refine RunsE.skip ?_ | refine RunsE.block ?_ | refine RunsE.inBlock ?_ | refine RunsE.yes rfl ?_ | refine RunsE.no rfl ?_ | refine RunsE.exit rfl ?_)
  refine RunsE.region ?_
  refine OpsE.ev (Ev.move rfl) rfl ?_
  refine OpsE.ev (Ev.move rfl) rfl ?_
  refine OpsE.ev (Ev.eql (r := false) rfl rfl (beq_eq_false_iff_ne.2 (by simp only; omega))) rfl ?_
  refine OpsE.ev (Ev.move rfl) rfl ?_
  first | (refine OpsE.yes rfl rfl ?_; refine OpsE.ev (Ev.move rfl) rfl ?_) | refine OpsE.no rfl rfl rfl ?_ | refine OpsE.off rfl rfl rfl ?_
  first | (refine OpsE.yes rfl rfl ?_; refine OpsE.ev (Ev.move rfl) rfl ?_) | refine OpsE.no rfl rfl rfl ?_ | refine OpsE.off rfl rfl rfl ?_
  first | (refine OpsE.yes rfl rfl ?_; refine OpsE.ev (Ev.move rfl) rfl ?_) | refine OpsE.no rfl rfl rfl ?_ | refine OpsE.off rfl rfl rfl ?_
  first | (refine OpsE.yes rfl rfl ?_; refine OpsE.ex (Ex.invoke rfl rfl (m_less H) Tryd.call55 (less_spec v ys j (par j) (by omega) (by omega) w _ _ hs H)) rfl ?_; (try clear H); rintro _ w ⟨rfl, H⟩) | refine OpsE.no rfl rfl rfl ?_ | refine OpsE.off rfl rfl rfl ?_
  first | (refine OpsE.yes rfl rfl ?_; refine OpsE.ev (Ev.not rfl) rfl ?_) | refine OpsE.no rfl rfl rfl ?_ | refine OpsE.off rfl rfl rfl ?_
  refine OpsE.ev ((by first | exact Ev.pickT rfl rfl | exact Ev.pickF rfl rfl)) rfl ?_
  refine OpsE.nil ?_
  cases hl : (at' ys j).lt (at' ys (par j)) with
  | false =>
    repeat refine RunsE.seq ?_
    refine RunsE.yes (by first | rfl | (rw [hl]; rfl)) ?_
    refine RunsE.exit rfl ?_
    exact RunsE.end0 Tryd.func26 rfl ⟨rfl, ys, B, hperm, htail, up_done hup (.inr (TEv.nlt_le hl)), hs, H⟩
  | true =>
    repeat refine RunsE.seq ?_
    refine RunsE.no (by first | rfl | (rw [hl]; rfl)) ?_
    repeat (first | refine RunsE.seq ?_ | refine RunsE.skip ?_ | refine RunsE.block ?_ | refine RunsE.inBlock ?_ | refine RunsE.yes rfl ?_ | refine RunsE.no rfl ?_ | refine RunsE.exit rfl ?_)
    refine RunsE.region ?_
    refine OpsE.ev (Ev.move rfl) rfl ?_
    refine OpsE.ev (Ev.move rfl) rfl ?_
    refine OpsE.ev (Ev.move rfl) rfl ?_
    refine OpsE.ex (Ex.invoke rfl rfl (m_swap H) Tryd.call56 (swap_spec v ys (par j) j (by omega) (by omega) w _ _ hs H)) rfl ?_; (try clear H); rintro _ w ⟨rfl, B, hs, H⟩
    refine OpsE.nil ?_
    repeat (first | refine RunsE.seq ?_ | refine RunsE.skip ?_ | refine RunsE.block ?_ | refine RunsE.inBlock ?_ | refine RunsE.yes rfl ?_ | refine RunsE.no rfl ?_ | refine RunsE.exit rfl ?_)
    refine RunsE.region ?_
    refine OpsE.ev (Ev.move rfl) rfl ?_
    refine OpsE.ev (Ev.assign rfl) rfl ?_
    refine OpsE.nil ?_
    refine RunsE.inBlock ?_
    exact nextL (par j, sw ys (par j) j) _ _ hpj ⟨by simp only; omega, (sw_perm (by omega) (by omega)).trans hperm, fun k hk => by simp only; rw [sw_at (by omega) (by omega), if_neg (by omega), if_neg (by omega)]; exact htail k hk, up_step hup (by omega) hj (by omega) hl, B, hs, H⟩ ⟨rfl, rfl, trivial⟩

theorem hpush_spec [Strm] (v : Value) (xs : List TEv) (e : TEv) (b last : Nat) (hx : xs.length < 1000000) (hh : IsHeap xs xs.length) (w : World) (B F : List (Nat × Obj)) (hs : SlE v xs B) (H : SL w (B ++ (qC b last v :: F))) :
    Does Tryd.prog 19 #[hV b, .iface 46 (EvV e)] w fun r w' => r = .tuple #[] ∧ ∃ v' ys B', ys.Perm (xs ++ [e]) ∧ IsHeap ys ys.length ∧ SlE v' ys B' ∧ SL w' (B' ++ (qC b last v' :: F)) := by
  refine Does.intro (args := [_, _]) (e := [(0, _), (1, _)]) Tryd.func19 rfl Tryd.ntmps19 rfl rfl ?_
  repeat (first | refine RunsE.seq ?_ | refine RunsE.skip ?_ | refine RunsE.block ?_ | refine RunsE.inBlock ?_ | refine RunsE.yes rfl ?_ | refine RunsE.no rfl ?_ | refine RunsE.exit rfl ?_)
  repeat (first | refine RunsE.seq ?_ | refine RunsE.skip ?_ | refine RunsE.block ?_ | refine RunsE.inBlock ?_ | refine RunsE.yes rfl ?_ | refine RunsE.no rfl ?_ | refine RunsE.exit rfl ?_)
  refine RunsE.region ?_
  refine OpsE.ev (Ev.move rfl) rfl ?_
  refine OpsE.ev (Ev.move rfl) rfl ?_
  refine OpsE.ex (Ex.invoke rfl rfl m_push Tryd.call59 (epush_spec v xs e b last (by omega) w _ _ hs H)) rfl ?_; (try clear H); rintro _ w ⟨rfl, v', B, hs, H⟩
  refine OpsE.nil ?_
  obtain ⟨a', c', rfl⟩ := hs.len
  have hl : (xs ++ [e]).length = xs.length + 1 := by simp
  repeat (first | refine RunsE.seq ?_ | refine RunsE.skip ?_ | refine RunsE.block ?_ | refine RunsE.inBlock ?_ | refine RunsE.yes rfl ?_ | refine RunsE.no rfl ?_ | refine RunsE.exit rfl ?_)
  refine RunsE.region ?_
  refine OpsE.ev (Ev.move rfl) rfl ?_
  refine OpsE.ev (Ev.move rfl) rfl ?_
  refine OpsE.ex (Ex.invoke rfl rfl (m_len H) Tryd.call54 (elen_spec _ (xs ++ [e]).length ⟨_, _, rfl⟩ w _ H)) rfl ?_; (try clear H); rintro _ w ⟨rfl, H⟩
  refine OpsE.ev (Ev.sub (c := (xs.length : Int)) rfl rfl (by rw [qi64 (by omega) (by omega)]; omega)) rfl ?_
  refine OpsE.ex (Ex.call rfl Tryd.call26 (up_spec _ (xs ++ [e]) (xs.length + 1) xs.length b last (by omega) (by omega) (by omega) (push_up hh) w _ _ hs H)) rfl ?_; (try clear H); rintro _ w ⟨rfl, ys, B, hp, _, hh, hs, H⟩
  refine OpsE.nil ?_
  exact RunsE.end0 Tryd.func19 rfl ⟨rfl, _, ys, B, hp, by rw [hp.length_eq, hl]; exact hh, hs, H⟩

set_option maxHeartbeats 1000000 in
theorem down_spec [Strm] (v : Value) (xs : List TEv) (i0 n b last : Nat) (hx : xs.length ≤ 1000000) (hn : n ≤ xs.length) (hi : i0 ≤ n) (hnear : Near xs n i0) (w : World) (B F : List (Nat × Obj)) (hs : SlE v xs B) (H : SL w (B ++ (qC b last v :: F))) :
    Does Tryd.prog 31 #[hV b, .int .i64 (i0 : Int), .int .i64 (n : Int)] w fun r w' => ∃ moved ys B', r = .bool moved ∧ ys.Perm xs ∧ (∀ k, n ≤ k → at' ys k = at' xs k) ∧
      ((moved = true ∧ IsHeap ys n) ∨ (moved = false ∧ ys = xs ∧ UpAt ys n i0)) ∧ SlE v ys B' ∧ SL w' (B' ++ (qC b last v :: F)) := by
  refine Does.intro (args := [_, _, _]) (e := [(0, _), (1, _), (2, _)]) Tryd.func31 rfl Tryd.ntmps31 rfl rfl ?_
  repeat (first | refine RunsE.seq ?_ | refine RunsE.skip ?_ | refine RunsE.block ?_ | refine RunsE.inBlock ?_ | refine RunsE.yes rfl ?_ | refine RunsE.no rfl ?_ | refine RunsE.exit rfl ?_)
  repeat (first | refine RunsE.seq ?_ | refine RunsE.skip ?_ | refine RunsE.block ?_ | refine RunsE.inBlock ?_ | refine RunsE.yes rfl ?_ | refine RunsE.no rfl ?_ | refine RunsE.exit rfl ?_)
  refine RunsE.region ?_
  refine OpsE.ev (Ev.assign rfl) rfl ?_
  refine OpsE.nil ?_
  repeat (first | refine RunsE.seq ?_ | refine RunsE.skip ?_ | refine RunsE.block ?_ | refine RunsE.inBlock ?_ | refine RunsE.yes rfl ?_ | refine RunsE.no rfl ?_ | refine RunsE.exit rfl ?_)
  refine RunsE.region ?_
  refine OpsE.ev (Ev.move rfl) rfl ?_
  refine OpsE.ev (Ev.assign rfl) rfl ?_
  refine OpsE.nil ?_
  repeat refine RunsE.seq ?_
  refine RunsE.join (fun i : Nat => [(1, .int .i64 (i0 : Int)), (7, .int .i64 (i : Int))])
    (fun i w => ∃ ys B, ys.Perm xs ∧ (∀ k, n ≤ k → at' ys k = at' xs k) ∧ ((i0 < i ∧ IsHeap ys n) ∨ (i = i0 ∧ ys = xs ∧ UpAt ys n i0)) ∧ SlE v ys B ∧ SL w (B ++ (qC b last v :: F))) (fun next => ?_) ?_
  · refine RunsE.block ?_
    refine RunsE.loop (fun s : Nat × List TEv => [(0, hV b), (1, .int .i64 (i0 : Int)), (2, .int .i64 (n : Int)), (7, .int .i64 (s.1 : Int))])
      (fun s w => s.1 ≤ n ∧ s.2.Perm xs ∧ (∀ k, n ≤ k → at' s.2 k = at' xs k) ∧ DownAt xs n i0 s.2 s.1 ∧ ∃ B, SlE v s.2 B ∧ SL w (B ++ (qC b last v :: F))) (fun s => n - s.1) (i0, xs) ⟨rfl, rfl, rfl, rfl, trivial⟩ ⟨hi, .refl _, fun _ _ => rfl, ⟨hnear, .inl ⟨rfl, rfl⟩⟩, B, hs, H⟩ ?_
    clear H hs B hnear hi
    rintro ⟨i, ys⟩ w ⟨hi, hperm, htail, hd, B, hs, H⟩ nextL
    simp only at hi hperm htail hd hs
    have hyl := hperm.length_eq
    have hchild : ∀ d, 0 < d → par d = i → d = 2 * i + 1 ∨ d = 2 * i + 2 := fun d h0 h => by unfold par at h; omega
    by_cases h1 : n ≤ 2 * i + 1
    ·
      repeat (first | refine RunsE.seq ?_ | refine RunsE.skip ?_ | refine RunsE.block ?_ | refine RunsE.inBlock ?_ | refine RunsE.yes rfl ?_ | refine RunsE.no rfl ?_ | refine RunsE.exit rfl ?_)
      refine RunsE.region ?_
      refine OpsE.ev (Ev.move rfl) rfl ?_
      refine OpsE.ev (Ev.mul (c := (2 : Int) * (i : Int)) rfl rfl (qi64 (by simp only; omega) (by simp only; omega))) rfl ?_
      refine OpsE.ev (Ev.add (c := ((2 * i + 1 : Nat) : Int)) rfl rfl (by rw [qi64 (by omega) (by omega)]; omega)) rfl ?_
      refine OpsE.ev (Ev.assign rfl) rfl ?_
      refine OpsE.nil ?_
      repeat (first | refine RunsE.seq ?_ | refine RunsE.skip ?_ | refine RunsE.block ?_ | refine RunsE.inBlock ?_ | refine RunsE.yes rfl ?_ | refine RunsE.no rfl ?_ | refine RunsE.exit rfl ?_)
      refine RunsE.region ?_
      refine OpsE.ev (Ev.move rfl) rfl ?_
      refine OpsE.ev (Ev.move rfl) rfl ?_
      refine OpsE.ev (Ev.geq (r := true) rfl rfl (decide_eq_true (by omega))) rfl ?_
      refine OpsE.ev (Ev.move rfl) rfl ?_
      first | (refine OpsE.yes rfl rfl ?_; refine OpsE.ev (Ev.move rfl) rfl ?_) | refine OpsE.no rfl rfl rfl ?_ | refine OpsE.off rfl rfl rfl ?_
      first | (refine OpsE.yes rfl rfl ?_; refine OpsE.ev (Ev.lss rfl rfl rfl) rfl ?_) | refine OpsE.no rfl rfl rfl ?_ | refine OpsE.off rfl rfl rfl ?_
      refine OpsE.ev ((by first | exact Ev.pickT rfl rfl | exact Ev.pickF rfl rfl)) rfl ?_
      refine OpsE.nil ?_
      repeat refine RunsE.seq ?_
      refine RunsE.yes rfl ?_
      refine RunsE.exit rfl ?_
      refine next i _ _ ⟨ys, B, hperm, htail, down_done hd fun d h0 hdn hp => ?_, hs, H⟩ ⟨rfl, rfl, trivial⟩
      have := hchild d h0 hp
      omega
    repeat (first | refine RunsE.seq ?_ | refine RunsE.skip ?_ | refine RunsE.block ?_ | refine RunsE.inBlock ?_ | refine RunsE.yes rfl ?_ | refine RunsE.no rfl ?_ | refine RunsE.exit rfl ?_)
    refine RunsE.region ?_
    refine OpsE.ev (Ev.move rfl) rfl ?_
    refine OpsE.ev (Ev.mul (c := (2 : Int) * (i : Int)) rfl rfl (qi64 (by simp only; omega) (by simp only; omega))) rfl ?_
    refine OpsE.ev (Ev.add (c := ((2 * i + 1 : Nat) : Int)) rfl rfl (by rw [qi64 (by omega) (by omega)]; omega)) rfl ?_
    refine OpsE.ev (Ev.assign rfl) rfl ?_
    refine OpsE.nil ?_
    repeat (first | refine RunsE.seq ?_ | refine RunsE.skip ?_ | refine RunsE.block ?_ | refine RunsE.inBlock ?_ | refine RunsE.yes rfl ?_ | refine RunsE.no rfl ?_ | refine RunsE.exit rfl ?_)
    refine RunsE.region ?_
    refine OpsE.ev (Ev.move rfl) rfl ?_
    refine OpsE.ev (Ev.move rfl) rfl ?_
    refine OpsE.ev (Ev.geq (r := false) rfl rfl (decide_eq_false (by omega))) rfl ?_
    refine OpsE.ev (Ev.move rfl) rfl ?_
    first | (refine OpsE.yes rfl rfl ?_; refine OpsE.ev (Ev.move rfl) rfl ?_) | refine OpsE.no rfl rfl rfl ?_ | refine OpsE.off rfl rfl rfl ?_
    first | (refine OpsE.yes rfl rfl ?_; refine OpsE.ev (Ev.lss (r := false) rfl rfl (decide_eq_false (by omega))) rfl ?_) | refine OpsE.no rfl rfl rfl ?_ | refine OpsE.off rfl rfl rfl ?_
    refine OpsE.ev ((by first | exact Ev.pickT rfl rfl | exact Ev.pickF rfl rfl)) rfl ?_
    refine OpsE.nil ?_
    repeat (first | refine RunsE.seq ?_ | refine RunsE.skip ?_ | refine RunsE.block ?_ | refine RunsE.inBlock ?_ | refine RunsE.yes rfl ?_ | refine RunsE.no rfl ?_ | refine RunsE.exit rfl ?_)
    refine RunsE.region ?_
    refine OpsE.ev (Ev.move rfl) rfl ?_
    refine OpsE.ev (Ev.assign rfl) rfl ?_
    refine OpsE.nil ?_
    repeat (first | refine RunsE.seq ?_ | refine RunsE.skip ?_ | refine RunsE.block ?_ | refine RunsE.inBlock ?_ | refine RunsE.yes rfl ?_ | refine RunsE.no rfl ?_ | refine RunsE.exit rfl ?_)
    refine RunsE.region ?_
    refine OpsE.ev (Ev.move rfl) rfl ?_
    refine OpsE.ev (Ev.add (c := ((2 * i + 2 : Nat) : Int)) rfl rfl (by rw [qi64 (by omega) (by omega)]; omega)) rfl ?_
    refine OpsE.ev (Ev.assign rfl) rfl ?_
    refine OpsE.nil ?_
    refine (RunsE.join (fun c : Nat => [(0, hV b), (1, .int .i64 (i0 : Int)), (2, .int .i64 (n : Int)), (7, .int .i64 (i : Int)), (9, .int .i64 (c : Int))])
      (fun c w => (c < n ∧ 0 < c ∧ par c = i ∧ ∀ d, 0 < d → d < n → par d = i → (at' ys c).le (at' ys d)) ∧ SL w (B ++ (qC b last v :: F))) (fun next2 => ?_) ?_)
    · by_cases h2 : 2 * i + 2 < n
      ·
        repeat (first | refine RunsE.seq ?_ | refine RunsE.skip ?_ | refine RunsE.block ?_ | refine RunsE.inBlock ?_ | refine RunsE.yes rfl ?_ | refine RunsE.no rfl ?_ | refine RunsE.exit rfl ?_)
        refine RunsE.region ?_
        refine OpsE.ev (Ev.move rfl) rfl ?_
        refine OpsE.ev (Ev.move rfl) rfl ?_
        refine OpsE.ev (Ev.lss (r := true) rfl rfl (decide_eq_true (by omega))) rfl ?_
        refine OpsE.ev (Ev.move rfl) rfl ?_
        first | (refine OpsE.yes rfl rfl ?_; refine OpsE.ev (Ev.move rfl) rfl ?_) | refine OpsE.no rfl rfl rfl ?_ | refine OpsE.off rfl rfl rfl ?_
        first | (refine OpsE.yes rfl rfl ?_; refine OpsE.ev (Ev.move rfl) rfl ?_) | refine OpsE.no rfl rfl rfl ?_ | refine OpsE.off rfl rfl rfl ?_
        first | (refine OpsE.yes rfl rfl ?_; refine OpsE.ev (Ev.move rfl) rfl ?_) | refine OpsE.no rfl rfl rfl ?_ | refine OpsE.off rfl rfl rfl ?_
        first | (refine OpsE.yes rfl rfl ?_; refine OpsE.ex (Ex.invoke rfl rfl (m_less H) Tryd.call55 (less_spec v ys (2 * i + 2) (2 * i + 1) (by omega) (by omega) w _ _ hs H)) rfl ?_; (try clear H); rintro _ w ⟨rfl, H⟩) | refine OpsE.no rfl rfl rfl ?_ | refine OpsE.off rfl rfl rfl ?_
        refine OpsE.ev ((by first | exact Ev.pickT rfl rfl | exact Ev.pickF rfl rfl)) rfl ?_
        refine OpsE.nil ?_
        cases hl : (at' ys (2 * i + 2)).lt (at' ys (2 * i + 1)) with
        | true =>
          repeat refine RunsE.seq ?_
          refine RunsE.yes (by first | rfl | (rw [hl]; rfl)) ?_
          repeat (first | refine RunsE.seq ?_ | refine RunsE.skip ?_ | refine RunsE.block ?_ | refine RunsE.inBlock ?_ | refine RunsE.yes rfl ?_ | refine RunsE.no rfl ?_ | refine RunsE.exit rfl ?_)
          refine RunsE.region ?_
          refine OpsE.ev (Ev.move rfl) rfl ?_
          refine OpsE.ev (Ev.assign rfl) rfl ?_
          refine OpsE.nil ?_
          refine next2 (2 * i + 2) _ _ ⟨⟨h2, by omega, by unfold par; omega, fun d h0 hdn hp => ?_⟩, H⟩ ⟨rfl, rfl, rfl, rfl, rfl, trivial⟩
          rcases hchild d h0 hp with rfl | rfl
          · exact TEv.lt_le hl
          · exact TEv.le_refl _
        | false =>
          repeat refine RunsE.seq ?_
          refine RunsE.no (by first | rfl | (rw [hl]; rfl)) ?_
          refine RunsE.skip ?_
          refine next2 (2 * i + 1) _ _ ⟨⟨by omega, by omega, by unfold par; omega, fun d h0 hdn hp => ?_⟩, H⟩ ⟨rfl, rfl, rfl, rfl, rfl, trivial⟩
          rcases hchild d h0 hp with rfl | rfl
          · exact TEv.le_refl _
          · exact TEv.nlt_le hl
      ·
        repeat (first | refine RunsE.seq ?_ | refine RunsE.skip ?_ | refine RunsE.block ?_ | refine RunsE.inBlock ?_ | refine RunsE.yes rfl ?_ | refine RunsE.no rfl ?_ | refine RunsE.exit rfl ?_)
        refine RunsE.region ?_
        refine OpsE.ev (Ev.move rfl) rfl ?_
        refine OpsE.ev (Ev.move rfl) rfl ?_
        refine OpsE.ev (Ev.lss (r := false) rfl rfl (decide_eq_false (by omega))) rfl ?_
        refine OpsE.ev (Ev.move rfl) rfl ?_
        first | (refine OpsE.yes rfl rfl ?_; refine OpsE.ev (Ev.move rfl) rfl ?_) | refine OpsE.no rfl rfl rfl ?_ | refine OpsE.off rfl rfl rfl ?_
        first | (refine OpsE.yes rfl rfl ?_; refine OpsE.ev (Ev.move rfl) rfl ?_) | refine OpsE.no rfl rfl rfl ?_ | refine OpsE.off rfl rfl rfl ?_
        first | (refine OpsE.yes rfl rfl ?_; refine OpsE.ev (Ev.move rfl) rfl ?_) | refine OpsE.no rfl rfl rfl ?_ | refine OpsE.off rfl rfl rfl ?_
        first | (refine OpsE.yes rfl rfl ?_; refine OpsE.ev (Ev.move rfl) rfl ?_) | refine OpsE.no rfl rfl rfl ?_ | refine OpsE.off rfl rfl rfl ?_
        refine OpsE.ev ((by first | exact Ev.pickT rfl rfl | exact Ev.pickF rfl rfl)) rfl ?_
        refine OpsE.nil ?_
        repeat refine RunsE.seq ?_
        refine RunsE.no rfl ?_
        refine RunsE.skip ?_
        refine next2 (2 * i + 1) _ _ ⟨⟨by omega, by omega, by unfold par; omega, fun d h0 hdn hp => ?_⟩, H⟩ ⟨rfl, rfl, rfl, rfl, rfl, trivial⟩
        rcases hchild d h0 hp with rfl | rfl
        · exact TEv.le_refl _
        · omega
    clear H
    rintro c w ⟨⟨hcn, hc0, hpc, hmin⟩, H⟩
    repeat (first | refine RunsE.seq ?_ | refine RunsE.skip ?_ | refine RunsE.block ?_ | refine RunsE.inBlock ?_ | refine RunsE.yes rfl ?_ | refine RunsE.no rfl ?_ | refine RunsE.exit rfl ?_)
    refine RunsE.region ?_
    refine OpsE.ev (Ev.move rfl) rfl ?_
    refine OpsE.ev (Ev.move rfl) rfl ?_
    refine OpsE.ev (Ev.move rfl) rfl ?_
    refine OpsE.ex (Ex.invoke rfl rfl (m_less H) Tryd.call55 (less_spec v ys c i (by omega) (by omega) w _ _ hs H)) rfl ?_; (try clear H); rintro _ w ⟨rfl, H⟩
    refine OpsE.ev (Ev.not rfl) rfl ?_
    refine OpsE.nil ?_
    cases hl : (at' ys c).lt (at' ys i) with
    | false =>
      repeat refine RunsE.seq ?_
      refine RunsE.yes (by first | rfl | (rw [hl]; rfl)) ?_
      refine RunsE.exit rfl ?_
      exact next i _ _ ⟨ys, B, hperm, htail, down_done hd fun d h0 hdn hp => TEv.le_trans (TEv.nlt_le hl) (hmin d h0 hdn hp), hs, H⟩ ⟨rfl, rfl, trivial⟩
    | true =>
      repeat refine RunsE.seq ?_
      refine RunsE.no (by first | rfl | (rw [hl]; rfl)) ?_
      repeat (first | refine RunsE.seq ?_ | refine RunsE.skip ?_ | refine RunsE.block ?_ | refine RunsE.inBlock ?_ | refine RunsE.yes rfl ?_ | refine RunsE.no rfl ?_ | refine RunsE.exit rfl ?_)
      refine RunsE.region ?_
      refine OpsE.ev (Ev.move rfl) rfl ?_
      refine OpsE.ev (Ev.move rfl) rfl ?_
      refine OpsE.ev (Ev.move rfl) rfl ?_
      refine OpsE.ex (Ex.invoke rfl rfl (m_swap H) Tryd.call56 (swap_spec v ys i c (by omega) (by omega) w _ _ hs H)) rfl ?_; (try clear H); rintro _ w ⟨rfl, B, hs, H⟩
      refine OpsE.nil ?_
      repeat (first | refine RunsE.seq ?_ | refine RunsE.skip ?_ | refine RunsE.block ?_ | refine RunsE.inBlock ?_ | refine RunsE.yes rfl ?_ | refine RunsE.no rfl ?_ | refine RunsE.exit rfl ?_)
      refine RunsE.region ?_
      refine OpsE.ev (Ev.move rfl) rfl ?_
      refine OpsE.ev (Ev.assign rfl) rfl ?_
      refine OpsE.nil ?_
      refine RunsE.inBlock ?_
      refine nextL (c, sw ys i c) _ _ (by simp only; unfold par at hpc; omega) ⟨by simp only; omega, (sw_perm (by omega) (by omega)).trans hperm, fun k hk => ?_, down_step hd (by omega) hcn hc0 hpc hmin hl, B, hs, H⟩ ⟨rfl, rfl, rfl, rfl, trivial⟩
      simp only
      rw [sw_at (by omega) (by omega), if_neg (by omega), if_neg (by omega)]
      exact htail k hk
  clear H hs B
  rintro i w ⟨ys, B, hperm, htail, hcase, hs, H⟩
  rcases hcase with ⟨h1, h2⟩ | ⟨h1, h2, h3⟩
  ·
    repeat (first | refine RunsE.seq ?_ | refine RunsE.skip ?_ | refine RunsE.block ?_ | refine RunsE.inBlock ?_ | refine RunsE.yes rfl ?_ | refine RunsE.no rfl ?_ | refine RunsE.exit rfl ?_)
    refine RunsE.region ?_
    refine OpsE.ev (Ev.move rfl) rfl ?_
    refine OpsE.ev (Ev.move rfl) rfl ?_
    refine OpsE.ev (Ev.gtr (r := true) rfl rfl (decide_eq_true (by omega))) rfl ?_
    refine OpsE.ev (Ev.assign rfl) rfl ?_
    refine OpsE.nil ?_
    repeat (first | refine RunsE.seq ?_ | refine RunsE.skip ?_ | refine RunsE.block ?_ | refine RunsE.inBlock ?_ | refine RunsE.yes rfl ?_ | refine RunsE.no rfl ?_ | refine RunsE.exit rfl ?_)
    exact RunsE.ret1 Tryd.func31 rfl rfl ⟨true, ys, B, rfl, hperm, htail, .inl ⟨rfl, h2⟩, hs, H⟩
  ·
    repeat (first | refine RunsE.seq ?_ | refine RunsE.skip ?_ | refine RunsE.block ?_ | refine RunsE.inBlock ?_ | refine RunsE.yes rfl ?_ | refine RunsE.no rfl ?_ | refine RunsE.exit rfl ?_)
    refine RunsE.region ?_
    refine OpsE.ev (Ev.move rfl) rfl ?_
    refine OpsE.ev (Ev.move rfl) rfl ?_
    refine OpsE.ev (Ev.gtr (r := false) rfl rfl (decide_eq_false (by omega))) rfl ?_
    refine OpsE.ev (Ev.assign rfl) rfl ?_
    refine OpsE.nil ?_
    repeat (first | refine RunsE.seq ?_ | refine RunsE.skip ?_ | refine RunsE.block ?_ | refine RunsE.inBlock ?_ | refine RunsE.yes rfl ?_ | refine RunsE.no rfl ?_ | refine RunsE.exit rfl ?_)
    exact RunsE.ret1 Tryd.func31 rfl rfl ⟨false, ys, B, rfl, hperm, htail, .inr ⟨rfl, h2, h3⟩, hs, H⟩

theorem heap_take {ys : List TEv} {n : Nat} (h : IsHeap ys n) (hn : n ≤ ys.length) : IsHeap (ys.take n) (ys.take n).length := by
  have hl : (ys.take n).length = n := by rw [List.length_take]; omega
  rw [hl]
  intro k k0 hk
  have e : ∀ m, m < n → at' (ys.take n) m = at' ys m := fun m hm => by simp [at', List.getD_eq_getElem?_getD, hm]
  have hp : par k < k := by unfold par; omega
  rw [e _ (by omega), e _ hk]
  exact h k k0 hk

theorem take_last {ys : List TEv} {n : Nat} (hl : ys.length = n + 1) : (at' ys n :: ys.take n).Perm ys := by
  have h1 : ys = ys.take n ++ [at' ys n] := by
    conv => lhs; rw [← List.take_append_drop n ys]
    congr 1
    rw [List.drop_eq_getElem_cons (by omega), List.drop_eq_nil_of_le (by omega)]
    simp [at', List.getD_eq_getElem?_getD, show n < ys.length by omega]
  conv => rhs; rw [h1]
  exact (List.perm_append_comm (l₁ := [at' ys n])).trans (List.Perm.refl _)

theorem hpop_spec [Strm] (v : Value) (xs : List TEv) (b last : Nat) (hx : xs.length ≤ 1000000) (h0 : 0 < xs.length) (hh : IsHeap xs xs.length) (w : World) (B F : List (Nat × Obj)) (hs : SlE v xs B) (H : SL w (B ++ (qC b last v :: F))) :
    Does Tryd.prog 25 #[hV b] w fun r w' => r = .iface 46 (EvV (at' xs 0)) ∧ ∃ v' ys B', (at' xs 0 :: ys).Perm xs ∧ IsHeap ys ys.length ∧ SlE v' ys B' ∧ SL w' (B' ++ (qC b last v' :: F)) := by
  obtain ⟨n, hn⟩ : ∃ n, xs.length = n + 1 := ⟨xs.length - 1, by omega⟩
  obtain ⟨a, c, rfl⟩ := hs.len
  have hsl : (sw xs 0 n).length = xs.length := sw_len _ _ _
  have hnear : Near (sw xs 0 n) n 0 := by
    by_cases h : 0 < n
    · exact remove_near (by rw [hn] at hh; exact hh) hn h
    · exact ⟨fun k k0 hk => by omega, fun c c0 hc => by omega⟩
  have hlast : at' (sw xs 0 n) n = at' xs 0 := by rw [sw_at (by omega) (by omega), if_pos rfl]
  refine Does.intro (args := [_]) (e := [(0, _)]) Tryd.func25 rfl Tryd.ntmps25 rfl rfl ?_
  repeat (first | refine RunsE.seq ?_ | refine RunsE.skip ?_ | refine RunsE.block ?_ | refine RunsE.inBlock ?_ | refine RunsE.yes rfl ?_ | refine RunsE.no rfl ?_ | refine RunsE.exit rfl ?_)
  repeat (first | refine RunsE.seq ?_ | refine RunsE.skip ?_ | refine RunsE.block ?_ | refine RunsE.inBlock ?_ | refine RunsE.yes rfl ?_ | refine RunsE.no rfl ?_ | refine RunsE.exit rfl ?_)
  refine RunsE.region ?_
  refine OpsE.ev (Ev.assign rfl) rfl ?_
  refine OpsE.nil ?_
  repeat (first | refine RunsE.seq ?_ | refine RunsE.skip ?_ | refine RunsE.block ?_ | refine RunsE.inBlock ?_ | refine RunsE.yes rfl ?_ | refine RunsE.no rfl ?_ | refine RunsE.exit rfl ?_)
  refine RunsE.region ?_
  refine OpsE.ev (Ev.move rfl) rfl ?_
  refine OpsE.ex (Ex.invoke rfl rfl (m_len H) Tryd.call54 (elen_spec _ xs.length ⟨_, _, rfl⟩ w _ H)) rfl ?_; (try clear H); rintro _ w ⟨rfl, H⟩
  refine OpsE.ev (Ev.sub (c := (n : Int)) rfl rfl (by rw [qi64 (by omega) (by omega)]; omega)) rfl ?_
  refine OpsE.ev (Ev.assign rfl) rfl ?_
  refine OpsE.nil ?_
  repeat (first | refine RunsE.seq ?_ | refine RunsE.skip ?_ | refine RunsE.block ?_ | refine RunsE.inBlock ?_ | refine RunsE.yes rfl ?_ | refine RunsE.no rfl ?_ | refine RunsE.exit rfl ?_)
  refine RunsE.region ?_
  refine OpsE.ev (Ev.move rfl) rfl ?_
  refine OpsE.ev (Ev.move rfl) rfl ?_
  refine OpsE.ex (Ex.invoke rfl rfl (m_swap H) Tryd.call56 (swap_spec _ xs 0 n (by omega) (by omega) w _ _ hs H)) rfl ?_; (try clear H); rintro _ w ⟨rfl, B, hs, H⟩
  refine OpsE.nil ?_
  repeat (first | refine RunsE.seq ?_ | refine RunsE.skip ?_ | refine RunsE.block ?_ | refine RunsE.inBlock ?_ | refine RunsE.yes rfl ?_ | refine RunsE.no rfl ?_ | refine RunsE.exit rfl ?_)
  refine RunsE.region ?_
  refine OpsE.ev (Ev.move rfl) rfl ?_
  refine OpsE.ev (Ev.move rfl) rfl ?_
  refine OpsE.ex (Ex.call rfl Tryd.call31 (down_spec _ (sw xs 0 n) 0 n b last (by omega) (by omega) (by omega) hnear w _ _ hs H)) rfl ?_; (try clear H); rintro _ w ⟨moved, ys, B, rfl, hperm, htail, hcase, hs, H⟩
  refine OpsE.nil ?_
  have hyl := hperm.length_eq
  have hheap : IsHeap ys n := by
    rcases hcase with ⟨_, h⟩ | ⟨_, _, h⟩
    · exact h
    · exact up_done h (.inl rfl)
  have hyn : at' ys n = at' xs 0 := by rw [htail n (Nat.le_refl _), hlast]
  repeat (first | refine RunsE.seq ?_ | refine RunsE.skip ?_ | refine RunsE.block ?_ | refine RunsE.inBlock ?_ | refine RunsE.yes rfl ?_ | refine RunsE.no rfl ?_ | refine RunsE.exit rfl ?_)
  refine RunsE.region ?_
  refine OpsE.ev (Ev.move rfl) rfl ?_
  refine OpsE.ex (Ex.invoke rfl rfl m_pop Tryd.call58 (epop_spec _ ys b last n (by omega) (by omega) w _ _ hs H)) rfl ?_; (try clear H); rw [hyn]; rintro _ w ⟨rfl, v', B, hs, H⟩
  refine OpsE.ev (Ev.assign rfl) rfl ?_
  refine OpsE.nil ?_
  repeat (first | refine RunsE.seq ?_ | refine RunsE.skip ?_ | refine RunsE.block ?_ | refine RunsE.inBlock ?_ | refine RunsE.yes rfl ?_ | refine RunsE.no rfl ?_ | refine RunsE.exit rfl ?_)
  refine RunsE.ret1 Tryd.func25 rfl rfl ⟨rfl, v', ys.take n, B, ?_, heap_take hheap (by omega), hs, H⟩
  have := take_last (ys := ys) (n := n) (by omega)
  rw [hyn] at this
  exact (this.trans hperm).trans (sw_perm (by omega) (by omega))

end Go.Proofs.YtgeocehgobcdjaaDoor
