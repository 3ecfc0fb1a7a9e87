/-
  The statement 'TimerCancels': its function, walked.
-/
import Derived.Test.YtgeocehgobcdjaaDoorTimerAdds
namespace Go.Proofs.YtgeocehgobcdjaaDoor.V

/-- What stands, of n events laid in, when the first i marks were heeded. -/
structure KeptT (bs : List Bool) (n i : Nat) (xs : List TEv) : Prop where
  ids : xs.Pairwise fun a b => a.id ≠ b.id
  has : ∀ k, k < n → (i ≤ k ∨ bs.getD k false = false) → ∃ e ∈ xs, e.id = k + 1
  only : ∀ e ∈ xs, ∃ k, k < n ∧ e.id = k + 1 ∧ (i ≤ k ∨ bs.getD k false = false)
  due : ∀ e ∈ xs, e.due < 100

section
variable {bs : List Bool} {n i : Nat} {xs ys : List TEv} {e : TEv}
theorem KeptT.perm (h : KeptT bs n i xs) (hp : ys.Perm xs) : KeptT bs n i ys :=
  ⟨(hp.pairwise_iff (fun h => fun he => h he.symm)).2 h.ids, fun k hk hc => by obtain ⟨e, he, hi⟩ := h.has k hk hc; exact ⟨e, hp.symm.subset he, hi⟩, fun e he => h.only e (hp.subset he), fun e he => h.due e (hp.subset he)⟩

theorem KeptT.add (h : KeptT bs n 0 xs) (he : e.id = n + 1) (hd : e.due < 100) (hp : ys.Perm (xs ++ [e])) : KeptT bs (n + 1) 0 ys := by
  refine KeptT.perm ⟨?_, fun k hk hc => ?_, fun a ha => ?_, fun a ha => ?_⟩ hp
  · rw [List.pairwise_append]
    refine ⟨h.ids, by simp, fun a ha b hb => ?_⟩
    obtain rfl := List.mem_singleton.1 hb
    obtain ⟨k, hk, hi, _⟩ := h.only a ha
    omega
  · by_cases hkn : k = n
    · exact ⟨e, by simp, by omega⟩
    · obtain ⟨a, ha, hi⟩ := h.has k (by omega) hc
      exact ⟨a, List.mem_append_left _ ha, hi⟩
  · rcases List.mem_append.1 ha with ha | ha
    · obtain ⟨k, hk, hi, hc⟩ := h.only a ha
      exact ⟨k, by omega, hi, hc⟩
    · obtain rfl := List.mem_singleton.1 ha
      exact ⟨n, by omega, he, .inl (by omega)⟩
  · rcases List.mem_append.1 ha with ha | ha
    · exact h.due a ha
    · obtain rfl := List.mem_singleton.1 ha; exact hd

theorem KeptT.cancel (h : KeptT bs n i xs) (hb : bs.getD i false = true) (he : e.id = i + 1) (hp : (e :: ys).Perm xs) : KeptT bs n (i + 1) ys ∧ ∀ a ∈ ys, a.id ≠ i + 1 := by
  have h' := h.perm hp
  have hc := List.pairwise_cons.1 h'.ids
  refine ⟨⟨hc.2, fun k hk hcc => ?_, fun a ha => ?_, fun a ha => h'.due a (.tail _ ha)⟩, fun a ha => ?_⟩
  · have hki : k ≠ i := by
      rintro rfl
      rcases hcc with h | h
      · omega
      · rw [hb] at h; cases h
    obtain ⟨a, ha, hi⟩ := h'.has k hk (by rcases hcc with h | h; exact .inl (by omega); exact .inr h)
    rcases List.mem_cons.1 ha with rfl | ha
    · omega
    · exact ⟨a, ha, hi⟩
  · obtain ⟨k, hk, hi, hcc⟩ := h'.only a (.tail _ ha)
    have := hc.1 a ha
    exact ⟨k, hk, hi, by rcases hcc with h | h; exact .inl (by omega); exact .inr h⟩
  · have := hc.1 a ha
    omega

theorem KeptT.keep (h : KeptT bs n i xs) (hb : bs.getD i false = false) : KeptT bs n (i + 1) xs := by
  refine ⟨h.ids, fun k hk hcc => h.has k hk (by rcases hcc with h | h; exact .inl (by omega); exact .inr h), fun a ha => ?_, h.due⟩
  obtain ⟨k, hk, hi, hcc⟩ := h.only a ha
  refine ⟨k, hk, hi, ?_⟩
  rcases hcc with hc | hc
  · rcases Nat.lt_or_ge i k with h | h
    · exact .inl h
    · have : k = i := by omega
      subst this; exact .inr hb
  · exact .inr hc
end

end Go.Proofs.YtgeocehgobcdjaaDoor.V
namespace Go.Proofs.YtgeocehgobcdjaaDoor
open Go.Proofs.YtgeocehgobcdjaaDoor.V

/-- The queue, when the first i marks were heeded. -/
structure Cut [Strm] (F : List (Nat × Obj)) (bs : List Bool) (b n i left : Nat) (w : World) : Prop where
  of :: ex : ∃ xs A, QH b xs n A ∧ KeptT bs n i xs ∧ xs.length = left ∧ SL w (A ++ F)

theorem cancel_hit [Strm] (b : Nat) (xs : List TEv) (last i : Nat) (e0 : TEv) (h0 : e0 ∈ xs) (he0 : e0.id = i) (hx : xs.length ≤ 1000000) (A : List (Nat × Obj)) (w : World) (F : List (Nat × Obj)) (hA : QH b xs last A) (H : SL w (A ++ F)) :
    Does Tryd.prog 13 #[.pointer (some ⟨b, 0, none⟩), .int .i64 (i : Int)] w fun r w' => ∃ ys A' e, r = .nilIface ∧ e.id = i ∧ (e :: ys).Perm xs ∧ QH b ys last A' ∧ SL w' (A' ++ F) := by
  refine (cancel_spec b xs last (i : Int) hx A w F hA H).mono ?_
  rintro r w' ⟨ys, A', ⟨rfl, _, hno⟩ | ⟨rfl, e, hid, hp⟩, hA, H⟩
  · exact absurd (by omega) (hno e0 h0)
  · exact ⟨ys, A', e, rfl, by omega, hp, hA, H⟩

theorem cancel_miss [Strm] (b : Nat) (xs : List TEv) (last i : Nat) (hno : ∀ e ∈ xs, e.id ≠ i) (hx : xs.length ≤ 1000000) (A : List (Nat × Obj)) (w : World) (F : List (Nat × Obj)) (hA : QH b xs last A) (H : SL w (A ++ F)) :
    Does Tryd.prog 13 #[.pointer (some ⟨b, 0, none⟩), .int .i64 (i : Int)] w fun r w' => ∃ A', r = TEr 8 ∧ QH b xs last A' ∧ SL w' (A' ++ F) := by
  refine (cancel_spec b xs last (i : Int) hx A w F hA H).mono ?_
  rintro r w' ⟨ys, A', ⟨rfl, rfl, _⟩ | ⟨rfl, e, hid, hp⟩, hA, H⟩
  · exact ⟨A', rfl, hA, H⟩
  · exact absurd (by omega) (hno e (hp.subset (.head _)))

set_option maxHeartbeats 4000000 in
theorem cancelslaw_spec [Strm] (ds : List Int) (bs : List Bool) (vd vb : Value) (w : World) (F : List (Nat × Obj)) (hvd : IntsIn .i64 F vd ds) (hvb : BoolsIn F vb bs) (hE : ErrIn F) (H : SL w F) :
    Does Tryd.prog 4 #[vd, vb] w fun r w' => r = .bool true ∧ SL w' F := by
  obtain ⟨ad, cd, rfl, hcd⟩ := hvd.len
  obtain ⟨ab, cb, rfl, hcb⟩ := hvb.len
  obtain ⟨n, hn⟩ : ∃ n : Nat, n = min ds.length 40 := ⟨_, rfl⟩
  refine Does.intro (args := [_, _]) (e := [(0, _), (1, _)]) Tryd.func4 rfl Tryd.ntmps4 rfl rfl ?_
  repeat (first | refine RunsE.seq ?_ | refine RunsE.skip ?_ | refine RunsE.block ?_ | refine RunsE.inBlock ?_ | refine RunsE.yes rfl ?_ | refine RunsE.no rfl ?_ | refine RunsE.exit rfl ?_)
  repeat (first | refine RunsE.seq ?_ | refine RunsE.skip ?_ | refine RunsE.block ?_ | refine RunsE.inBlock ?_ | refine RunsE.yes rfl ?_ | refine RunsE.no rfl ?_ | refine RunsE.exit rfl ?_)
  refine RunsE.region ?_
  refine OpsE.ev (Ev.assign rfl) rfl ?_
  refine OpsE.nil ?_
  repeat (first | refine RunsE.seq ?_ | refine RunsE.skip ?_ | refine RunsE.block ?_ | refine RunsE.inBlock ?_ | refine RunsE.yes rfl ?_ | refine RunsE.no rfl ?_ | refine RunsE.exit rfl ?_)
  refine RunsE.region ?_
  refine OpsE.ex (Ex.call rfl Tryd.call6 (tnew_spec w _ H)) rfl ?_; (try clear H); rintro _ w ⟨b, A, rfl, hA, H⟩
  refine OpsE.ev (Ev.assign rfl) rfl ?_
  refine OpsE.nil ?_
  repeat (first | refine RunsE.seq ?_ | refine RunsE.skip ?_ | refine RunsE.block ?_ | refine RunsE.inBlock ?_ | refine RunsE.yes rfl ?_ | refine RunsE.no rfl ?_ | refine RunsE.exit rfl ?_)
  refine RunsE.region ?_
  refine OpsE.ev (Ev.move rfl) rfl ?_
  refine OpsE.ev (Ev.ptrNilEq (el := 62) rfl rfl (by kernel_rfl)) rfl ?_
  refine OpsE.nil ?_
  repeat (first | refine RunsE.seq ?_ | refine RunsE.skip ?_ | refine RunsE.block ?_ | refine RunsE.inBlock ?_ | refine RunsE.yes rfl ?_ | refine RunsE.no rfl ?_ | refine RunsE.exit rfl ?_)
  refine RunsE.region ?_
  refine OpsE.ev (Ev.move rfl) rfl ?_
  refine OpsE.ev (Ev.lenSl (d := 3) rfl rfl (by kernel_rfl)) rfl ?_
  refine OpsE.ev (Ev.minN (c := (n : Int)) rfl rfl (by split <;> omega)) rfl ?_
  refine OpsE.ev (Ev.assign rfl) rfl ?_
  refine OpsE.nil ?_
  repeat (first | refine RunsE.seq ?_ | refine RunsE.skip ?_ | refine RunsE.block ?_ | refine RunsE.inBlock ?_ | refine RunsE.yes rfl ?_ | refine RunsE.no rfl ?_ | refine RunsE.exit rfl ?_)
  refine RunsE.region ?_
  refine OpsE.ev (Ev.assign rfl) rfl ?_
  refine OpsE.nil ?_
  have HC : Cut F bs b 0 0 0 w := .of ⟨[], A, hA, ⟨.nil, fun k hk => by omega, fun e he => (by cases he), fun e he => (by cases he)⟩, rfl, H⟩
  clear H hA A
  repeat refine RunsE.seq ?_
  refine RunsE.join (fun _ : Unit => [(1, .slice ab bs.length cb), (5, .pointer (some ⟨b, 0, none⟩)), (6, .int .i64 (n : Int))]) (fun _ w => Cut F bs b n 0 n w) (fun next => ?_) ?_
  · refine RunsE.block ?_
    refine RunsE.loop (fun i : Nat => [(0, .slice ad ds.length cd), (1, .slice ab bs.length cb), (5, .pointer (some ⟨b, 0, none⟩)), (6, .int .i64 (n : Int)), (7, .int .i64 (i : Int))])
      (fun i w => i ≤ n ∧ Cut F bs b i 0 i w) (fun i => n - i) 0 ⟨rfl, rfl, rfl, rfl, rfl, trivial⟩ ⟨by omega, HC⟩ ?_
    clear HC
    rintro i w ⟨hi, HC⟩ nextL
    by_cases h1 : i = n
    · subst h1
      repeat (first | refine RunsE.seq ?_ | refine RunsE.skip ?_ | refine RunsE.block ?_ | refine RunsE.inBlock ?_ | refine RunsE.yes rfl ?_ | refine RunsE.no rfl ?_ | refine RunsE.exit rfl ?_)
      refine RunsE.region ?_
      refine OpsE.ev (Ev.move rfl) rfl ?_
      refine OpsE.ev (Ev.move rfl) rfl ?_
      refine OpsE.ev (Ev.lss (r := false) rfl rfl (decide_eq_false (by omega))) rfl ?_
      refine OpsE.nil ?_
      repeat refine RunsE.seq ?_
      refine RunsE.no rfl ?_
      refine RunsE.exit rfl ?_
      exact next () _ _ HC ⟨rfl, rfl, rfl, trivial⟩
    clear next
    obtain ⟨xs, A, hA, hK, hxl, H⟩ := HC.ex
    obtain ⟨z, hz⟩ : ∃ z, ds[i]? = some z := ⟨ds[i]'(by omega), by simp [show i < ds.length by omega]⟩
    obtain ⟨bd, od, _, rfl, hdr, rfl, _⟩ := hvd.at hz
    obtain ⟨m, hm, _⟩ := u64_nat z
    obtain ⟨d, hd⟩ : ∃ d, d = m % 100 := ⟨_, rfl⟩
    have hd1 : d < 100 := by omega
    repeat (first | refine RunsE.seq ?_ | refine RunsE.skip ?_ | refine RunsE.block ?_ | refine RunsE.inBlock ?_ | refine RunsE.yes rfl ?_ | refine RunsE.no rfl ?_ | refine RunsE.exit rfl ?_)
    refine RunsE.region ?_
    refine OpsE.ev (Ev.move rfl) rfl ?_
    refine OpsE.ev (Ev.move rfl) rfl ?_
    refine OpsE.ev (Ev.lss (r := true) rfl rfl (decide_eq_true (by omega))) rfl ?_
    refine OpsE.nil ?_
    repeat (first | refine RunsE.seq ?_ | refine RunsE.skip ?_ | refine RunsE.block ?_ | refine RunsE.inBlock ?_ | refine RunsE.yes rfl ?_ | refine RunsE.no rfl ?_ | refine RunsE.exit rfl ?_)
    repeat (first | refine RunsE.seq ?_ | refine RunsE.skip ?_ | refine RunsE.block ?_ | refine RunsE.inBlock ?_ | refine RunsE.yes rfl ?_ | refine RunsE.no rfl ?_ | refine RunsE.exit rfl ?_)
    refine RunsE.region ?_
    refine OpsE.ev (Ev.move rfl) rfl ?_
    refine OpsE.ev (Ev.move rfl) rfl ?_
    refine OpsE.ev (Ev.move rfl) rfl ?_
    refine OpsE.ev (Ev.iaSl (n := 3) (sz := 1) (m := i) (o := od + i) rfl rfl rfl (by kernel_rfl) (by omega) (by omega)) rfl ?_
    refine OpsE.ev (Ev.load H rfl (by kernel_rfl) hdr.right) rfl ?_
    refine OpsE.ev (Ev.conv (k' := .u64) (c := (m : Int)) rfl (by kernel_rfl) (by kernel_rfl) hm) rfl ?_
    refine OpsE.ev (Ev.rem (c := (d : Int)) rfl rfl (by omega) (by rw [hd]; exact qrem m 100)) rfl ?_
    refine OpsE.ev (Ev.conv (k' := .i64) (c := (d : Int)) rfl (by kernel_rfl) (by kernel_rfl) (qi64 (by omega) (by omega))) rfl ?_
    refine OpsE.ex (Ex.call rfl Tryd.call7 (add_spec b xs i d [] (by omega) (by decide) (by omega) (by omega) A w _ hA H)) rfl ?_; (try clear H); rintro _ w ⟨ys, A, rfl, hy, hA, H⟩
    refine OpsE.ev (Ev.move rfl) rfl ?_
    refine OpsE.ev (Ev.extract rfl rfl) rfl ?_
    refine OpsE.ev (Ev.extract rfl rfl) rfl ?_
    refine OpsE.ev (Ev.assign rfl) rfl ?_
    refine OpsE.ev (Ev.assign rfl) rfl ?_
    refine OpsE.nil ?_
    repeat (first | refine RunsE.seq ?_ | refine RunsE.skip ?_ | refine RunsE.block ?_ | refine RunsE.inBlock ?_ | refine RunsE.yes rfl ?_ | refine RunsE.no rfl ?_ | refine RunsE.exit rfl ?_)
    refine RunsE.region ?_
    refine OpsE.ev (Ev.move rfl) rfl ?_
    refine OpsE.ev (Ev.ifNilNeF rfl Tryd.underlying30) rfl ?_
    refine OpsE.nil ?_
    repeat (first | refine RunsE.seq ?_ | refine RunsE.skip ?_ | refine RunsE.block ?_ | refine RunsE.inBlock ?_ | refine RunsE.yes rfl ?_ | refine RunsE.no rfl ?_ | refine RunsE.exit rfl ?_)
    refine RunsE.region ?_
    refine OpsE.ev (Ev.move rfl) rfl ?_
    refine OpsE.ev (Ev.add rfl rfl) rfl ?_
    refine OpsE.ev (Ev.assign rfl) rfl ?_
    refine OpsE.nil ?_
    have hyl := hy.length_eq
    rw [List.length_append, List.length_singleton] at hyl
    exact nextL (i + 1) _ _ (by omega) ⟨by omega, .of ⟨ys, A, hA, hK.add (e := ⟨i + 1, d, []⟩) rfl hd1 hy, by omega, H⟩⟩ ⟨rfl, rfl, rfl, rfl, rfl, trivial⟩
  clear HC
  rintro _ w HC
  repeat (first | refine RunsE.seq ?_ | refine RunsE.skip ?_ | refine RunsE.block ?_ | refine RunsE.inBlock ?_ | refine RunsE.yes rfl ?_ | refine RunsE.no rfl ?_ | refine RunsE.exit rfl ?_)
  refine RunsE.region ?_
  refine OpsE.ev (Ev.move rfl) rfl ?_
  refine OpsE.ev (Ev.assign rfl) rfl ?_
  refine OpsE.nil ?_
  repeat (first | refine RunsE.seq ?_ | refine RunsE.skip ?_ | refine RunsE.block ?_ | refine RunsE.inBlock ?_ | refine RunsE.yes rfl ?_ | refine RunsE.no rfl ?_ | refine RunsE.exit rfl ?_)
  refine RunsE.region ?_
  refine OpsE.ev (Ev.assign rfl) rfl ?_
  refine OpsE.nil ?_
  repeat refine RunsE.seq ?_
  refine RunsE.join (fun left : Nat => [(1, .slice ab bs.length cb), (5, .pointer (some ⟨b, 0, none⟩)), (10, .int .i64 (left : Int))]) (fun left w => left ≤ n ∧ ∃ i, (n ≤ i ∨ bs.length ≤ i) ∧ Cut F bs b n i left w) (fun next => ?_) ?_
  · refine RunsE.block ?_
    refine RunsE.loop (fun s : Nat × Nat => [(1, .slice ab bs.length cb), (5, .pointer (some ⟨b, 0, none⟩)), (6, .int .i64 (n : Int)), (10, .int .i64 (s.2 : Int)), (11, .int .i64 (s.1 : Int))])
      (fun s w => s.1 ≤ n ∧ s.2 ≤ n ∧ Cut F bs b n s.1 s.2 w) (fun s => n - s.1) (0, n) ⟨rfl, rfl, rfl, rfl, rfl, trivial⟩ ⟨by simp only; omega, by simp only; omega, HC⟩ ?_
    clear HC
    rintro ⟨i, left⟩ w ⟨hi, hlf, HC⟩ nextL
    simp only at hi hlf HC
    by_cases h1 : i = n
    ·
      repeat (first | refine RunsE.seq ?_ | refine RunsE.skip ?_ | refine RunsE.block ?_ | refine RunsE.inBlock ?_ | refine RunsE.yes rfl ?_ | refine RunsE.no rfl ?_ | refine RunsE.exit rfl ?_)
      refine RunsE.region ?_
      refine OpsE.ev (Ev.move rfl) rfl ?_
      refine OpsE.ev (Ev.move rfl) rfl ?_
      refine OpsE.ev (Ev.lss (r := false) rfl rfl (decide_eq_false (by (try simp only); omega))) rfl ?_
      refine OpsE.ev (Ev.move rfl) rfl ?_
      first | (refine OpsE.yes rfl rfl ?_; refine OpsE.ev (Ev.move rfl) rfl ?_) | refine OpsE.no rfl rfl rfl ?_ | refine OpsE.off rfl rfl rfl ?_
      first | (refine OpsE.yes rfl rfl ?_; refine OpsE.ev (Ev.move rfl) rfl ?_) | refine OpsE.no rfl rfl rfl ?_ | refine OpsE.off rfl rfl rfl ?_
      first | (refine OpsE.yes rfl rfl ?_; refine OpsE.ev (Ev.lenSl (d := 4) rfl rfl (by kernel_rfl)) rfl ?_) | refine OpsE.no rfl rfl rfl ?_ | refine OpsE.off rfl rfl rfl ?_
      first | (refine OpsE.yes rfl rfl ?_; refine OpsE.ev (Ev.lss rfl rfl) rfl ?_) | refine OpsE.no rfl rfl rfl ?_ | refine OpsE.off rfl rfl rfl ?_
      refine OpsE.ev ((by first | exact Ev.pickT rfl rfl | exact Ev.pickF rfl rfl)) rfl ?_
      refine OpsE.nil ?_
      repeat refine RunsE.seq ?_
      refine RunsE.no rfl ?_
      refine RunsE.exit rfl ?_
      exact next left _ _ ⟨hlf, i, .inl (by omega), HC⟩ ⟨rfl, rfl, rfl, trivial⟩
    by_cases h2 : bs.length ≤ i
    ·
      repeat (first | refine RunsE.seq ?_ | refine RunsE.skip ?_ | refine RunsE.block ?_ | refine RunsE.inBlock ?_ | refine RunsE.yes rfl ?_ | refine RunsE.no rfl ?_ | refine RunsE.exit rfl ?_)
      refine RunsE.region ?_
      refine OpsE.ev (Ev.move rfl) rfl ?_
      refine OpsE.ev (Ev.move rfl) rfl ?_
      refine OpsE.ev (Ev.lss (r := true) rfl rfl (decide_eq_true (by (try simp only); omega))) rfl ?_
      refine OpsE.ev (Ev.move rfl) rfl ?_
      first | (refine OpsE.yes rfl rfl ?_; refine OpsE.ev (Ev.move rfl) rfl ?_) | refine OpsE.no rfl rfl rfl ?_ | refine OpsE.off rfl rfl rfl ?_
      first | (refine OpsE.yes rfl rfl ?_; refine OpsE.ev (Ev.move rfl) rfl ?_) | refine OpsE.no rfl rfl rfl ?_ | refine OpsE.off rfl rfl rfl ?_
      first | (refine OpsE.yes rfl rfl ?_; refine OpsE.ev (Ev.lenSl (d := 4) rfl rfl (by kernel_rfl)) rfl ?_) | refine OpsE.no rfl rfl rfl ?_ | refine OpsE.off rfl rfl rfl ?_
      first | (refine OpsE.yes rfl rfl ?_; refine OpsE.ev (Ev.lss (r := false) rfl rfl (decide_eq_false (by (try simp only); omega))) rfl ?_) | refine OpsE.no rfl rfl rfl ?_ | refine OpsE.off rfl rfl rfl ?_
      refine OpsE.ev ((by first | exact Ev.pickT rfl rfl | exact Ev.pickF rfl rfl)) rfl ?_
      refine OpsE.nil ?_
      repeat refine RunsE.seq ?_
      refine RunsE.no rfl ?_
      refine RunsE.exit rfl ?_
      exact next left _ _ ⟨hlf, i, .inr h2, HC⟩ ⟨rfl, rfl, rfl, trivial⟩
    clear next
    obtain ⟨xs, A, hA, hK, hxl, H⟩ := HC.ex
    obtain ⟨g, hg⟩ : ∃ g, bs[i]? = some g := ⟨bs[i]'(by omega), by simp [show i < bs.length by omega]⟩
    obtain ⟨bb, ob, _, rfl, hbr, rfl⟩ := hvb.at hg
    have hgd : bs.getD i false = g := by rw [List.getD_eq_getElem?_getD, hg]; rfl
    repeat (first | refine RunsE.seq ?_ | refine RunsE.skip ?_ | refine RunsE.block ?_ | refine RunsE.inBlock ?_ | refine RunsE.yes rfl ?_ | refine RunsE.no rfl ?_ | refine RunsE.exit rfl ?_)
    refine RunsE.region ?_
    refine OpsE.ev (Ev.move rfl) rfl ?_
    refine OpsE.ev (Ev.move rfl) rfl ?_
    refine OpsE.ev (Ev.lss (r := true) rfl rfl (decide_eq_true (by (try simp only); omega))) rfl ?_
    refine OpsE.ev (Ev.move rfl) rfl ?_
    first | (refine OpsE.yes rfl rfl ?_; refine OpsE.ev (Ev.move rfl) rfl ?_) | refine OpsE.no rfl rfl rfl ?_ | refine OpsE.off rfl rfl rfl ?_
    first | (refine OpsE.yes rfl rfl ?_; refine OpsE.ev (Ev.move rfl) rfl ?_) | refine OpsE.no rfl rfl rfl ?_ | refine OpsE.off rfl rfl rfl ?_
    first | (refine OpsE.yes rfl rfl ?_; refine OpsE.ev (Ev.lenSl (d := 4) rfl rfl (by kernel_rfl)) rfl ?_) | refine OpsE.no rfl rfl rfl ?_ | refine OpsE.off rfl rfl rfl ?_
    first | (refine OpsE.yes rfl rfl ?_; refine OpsE.ev (Ev.lss (r := true) rfl rfl (decide_eq_true (by (try simp only); omega))) rfl ?_) | refine OpsE.no rfl rfl rfl ?_ | refine OpsE.off rfl rfl rfl ?_
    refine OpsE.ev ((by first | exact Ev.pickT rfl rfl | exact Ev.pickF rfl rfl)) rfl ?_
    refine OpsE.nil ?_
    repeat (first | refine RunsE.seq ?_ | refine RunsE.skip ?_ | refine RunsE.block ?_ | refine RunsE.inBlock ?_ | refine RunsE.yes rfl ?_ | refine RunsE.no rfl ?_ | refine RunsE.exit rfl ?_)
    repeat (first | refine RunsE.seq ?_ | refine RunsE.skip ?_ | refine RunsE.block ?_ | refine RunsE.inBlock ?_ | refine RunsE.yes rfl ?_ | refine RunsE.no rfl ?_ | refine RunsE.exit rfl ?_)
    refine RunsE.region ?_
    refine OpsE.ev (Ev.move rfl) rfl ?_
    refine OpsE.ev (Ev.move rfl) rfl ?_
    refine OpsE.ev (Ev.iaSl (n := 4) (sz := 1) (m := i) (o := ob + i) rfl rfl rfl (by kernel_rfl) (by omega) (by omega)) rfl ?_
    refine OpsE.ev (Ev.load H rfl (by kernel_rfl) hbr.right) rfl ?_
    refine OpsE.nil ?_
    refine (RunsE.join (fun left : Nat => [(1, .slice (some ⟨bb, ob, none⟩) bs.length cb), (5, .pointer (some ⟨b, 0, none⟩)), (6, .int .i64 (n : Int)), (10, .int .i64 (left : Int)), (11, .int .i64 (i : Int))]) (fun left w => left ≤ n ∧ Cut F bs b n (i + 1) left w) (fun next => ?_) ?_)
    · cases g with
      | false =>
        repeat refine RunsE.seq ?_
        refine RunsE.no rfl ?_
        refine RunsE.skip ?_
        exact next left _ _ ⟨hlf, .of ⟨xs, A, hA, hK.keep hgd, hxl, H⟩⟩ ⟨rfl, rfl, rfl, rfl, rfl, trivial⟩
      | true =>
        obtain ⟨e0, h0, he0⟩ := hK.has i (by omega) (.inl (Nat.le_refl _))
        repeat refine RunsE.seq ?_
        refine RunsE.yes rfl ?_
        repeat refine RunsE.seq ?_
        repeat (first | refine RunsE.seq ?_ | refine RunsE.skip ?_ | refine RunsE.block ?_ | refine RunsE.inBlock ?_ | refine RunsE.yes rfl ?_ | refine RunsE.no rfl ?_ | refine RunsE.exit rfl ?_)
        refine RunsE.region ?_
        refine OpsE.ev (Ev.move rfl) rfl ?_
        refine OpsE.ev (Ev.move rfl) rfl ?_
        refine OpsE.ev (Ev.add (c := ((i + 1 : Nat) : Int)) rfl rfl (by (try simp only); rw [qi64 (by omega) (by omega)]; omega)) rfl ?_
        refine OpsE.ex (Ex.call rfl Tryd.call13 (cancel_hit b xs n (i + 1) e0 h0 he0 (by omega) A w _ hA H)) rfl ?_; (try clear H); rintro _ w ⟨ys, A, e, rfl, hid, hp, hA, H⟩; obtain ⟨hK, hno⟩ := hK.cancel hgd hid hp; have hyl := hp.length_eq; rw [List.length_cons] at hyl
        refine OpsE.ev (Ev.ifNilNeF rfl Tryd.underlying30) rfl ?_
        refine OpsE.ev (Ev.move rfl) rfl ?_
        first | (refine OpsE.yes rfl rfl ?_; refine OpsE.ev (Ev.move rfl) rfl ?_) | refine OpsE.no rfl rfl rfl ?_ | refine OpsE.off rfl rfl rfl ?_
        first | (refine OpsE.yes rfl rfl ?_; refine OpsE.ev (Ev.move rfl) rfl ?_) | refine OpsE.no rfl rfl rfl ?_ | refine OpsE.off rfl rfl rfl ?_
        first | (refine OpsE.yes rfl rfl ?_; refine OpsE.ev (Ev.add (c := ((i + 1 : Nat) : Int)) rfl rfl (by (try simp only); rw [qi64 (by omega) (by omega)]; omega)) rfl ?_) | refine OpsE.no rfl rfl rfl ?_ | refine OpsE.off rfl rfl rfl ?_
        first | (refine OpsE.yes rfl rfl ?_; refine OpsE.ex (Ex.call rfl Tryd.call13 (cancel_miss b ys n (i + 1) hno (by omega) A w _ hA H)) rfl ?_; (try clear H); rintro _ w ⟨A, rfl, hA, H⟩) | refine OpsE.no rfl rfl rfl ?_ | refine OpsE.off rfl rfl rfl ?_
        first | (refine OpsE.yes rfl rfl ?_; refine OpsE.ex (Ex.call rfl Tryd.call9 (num_spec 8 w _ hE.right H)) rfl ?_; (try clear H); rintro _ w ⟨rfl, H⟩) | refine OpsE.no rfl rfl rfl ?_ | refine OpsE.off rfl rfl rfl ?_
        first | (refine OpsE.yes rfl rfl ?_; refine OpsE.ev (Ev.neq (r := false) rfl rfl rfl) rfl ?_) | refine OpsE.no rfl rfl rfl ?_ | refine OpsE.off rfl rfl rfl ?_
        refine OpsE.ev ((by first | exact Ev.pickT rfl rfl | exact Ev.pickF rfl rfl)) rfl ?_
        refine OpsE.nil ?_
        repeat refine RunsE.seq ?_
        refine RunsE.no rfl ?_
        refine RunsE.skip ?_
        repeat (first | refine RunsE.seq ?_ | refine RunsE.skip ?_ | refine RunsE.block ?_ | refine RunsE.inBlock ?_ | refine RunsE.yes rfl ?_ | refine RunsE.no rfl ?_ | refine RunsE.exit rfl ?_)
        refine RunsE.region ?_
        refine OpsE.ev (Ev.move rfl) rfl ?_
        refine OpsE.ev (Ev.sub (c := (ys.length : Int)) rfl rfl (by rw [qi64 (by omega) (by omega)]; omega)) rfl ?_
        refine OpsE.ev (Ev.assign rfl) rfl ?_
        refine OpsE.nil ?_
        exact next ys.length _ _ ⟨by omega, .of ⟨ys, A, hA, hK, rfl, H⟩⟩ ⟨rfl, rfl, rfl, rfl, rfl, trivial⟩
    clear H HC
    rintro left' w ⟨hlf', HC⟩
    repeat (first | refine RunsE.seq ?_ | refine RunsE.skip ?_ | refine RunsE.block ?_ | refine RunsE.inBlock ?_ | refine RunsE.yes rfl ?_ | refine RunsE.no rfl ?_ | refine RunsE.exit rfl ?_)
    refine RunsE.region ?_
    refine OpsE.ev (Ev.move rfl) rfl ?_
    refine OpsE.ev (Ev.add rfl rfl) rfl ?_
    refine OpsE.ev (Ev.assign rfl) rfl ?_
    refine OpsE.nil ?_
    exact nextL (i + 1, left') _ _ (by simp only; omega) ⟨by simp only; omega, hlf', HC⟩ ⟨rfl, rfl, rfl, rfl, rfl, trivial⟩
  clear HC
  rintro left w ⟨hlf, i, hend, HC⟩
  obtain ⟨xs, A, hA, hK, hxl, H⟩ := HC.ex
  clear HC
  have hstay : ∀ e ∈ xs, ∃ k, k < n ∧ e.id = k + 1 ∧ bs.getD k false = false := fun e he => by
    obtain ⟨k, hk, hid, hc⟩ := hK.only e he
    refine ⟨k, hk, hid, ?_⟩
    rcases hc with hc | hc
    · rw [List.getD_eq_getElem?_getD, List.getElem?_eq_none (by omega)]; rfl
    · exact hc
  repeat (first | refine RunsE.seq ?_ | refine RunsE.skip ?_ | refine RunsE.block ?_ | refine RunsE.inBlock ?_ | refine RunsE.yes rfl ?_ | refine RunsE.no rfl ?_ | refine RunsE.exit rfl ?_)
  refine RunsE.region ?_
  refine OpsE.ev (Ev.move rfl) rfl ?_
  refine OpsE.ex (Ex.call rfl Tryd.call14 (tpop_spec b xs n 100 (by omega) A w _ hA H)) rfl ?_; (try clear H); rintro vl w ⟨out, ys, Bo, A, hs, hp, hA, H⟩
  refine OpsE.ev (Ev.assign rfl) rfl ?_
  refine OpsE.nil ?_
  obtain ⟨ao, co, rfl, hco⟩ := hs.leCap
  have hpl := hp.perm.length_eq
  rw [List.length_append] at hpl
  obtain rfl : ys = [] := by
    cases ys with
    | nil => rfl
    | cons e ys =>
      have h1 := hp.rest e (.head _)
      have h2 := hK.due e (hp.perm.subset (List.mem_append_right _ (.head _)))
      omega
  rw [List.length_nil] at hpl
  repeat (first | refine RunsE.seq ?_ | refine RunsE.skip ?_ | refine RunsE.block ?_ | refine RunsE.inBlock ?_ | refine RunsE.yes rfl ?_ | refine RunsE.no rfl ?_ | refine RunsE.exit rfl ?_)
  refine RunsE.region ?_
  refine OpsE.ev (Ev.assign rfl) rfl ?_
  refine OpsE.nil ?_
  repeat refine RunsE.seq ?_
  refine RunsE.join (fun _ : Unit => [(5, .pointer (some ⟨b, 0, none⟩)), (10, .int .i64 (left : Int)), (12, .slice ao out.length co)]) (fun _ w => SL w (Bo ++ (A ++ F))) (fun next => ?_) ?_
  · refine RunsE.block ?_
    refine RunsE.loop (fun k : Nat => [(1, .slice ab bs.length cb), (5, .pointer (some ⟨b, 0, none⟩)), (10, .int .i64 (left : Int)), (12, .slice ao out.length co), (13, .int .i64 (k : Int))])
      (fun k w => k ≤ out.length ∧ SL w (Bo ++ (A ++ F))) (fun k => out.length - k) 0 ⟨rfl, rfl, rfl, rfl, rfl, trivial⟩ ⟨by omega, H⟩ ?_
    clear H
    rintro k w ⟨hk, H⟩ nextL
    by_cases h1 : k = out.length
    ·
      repeat (first | refine RunsE.seq ?_ | refine RunsE.skip ?_ | refine RunsE.block ?_ | refine RunsE.inBlock ?_ | refine RunsE.yes rfl ?_ | refine RunsE.no rfl ?_ | refine RunsE.exit rfl ?_)
      refine RunsE.region ?_
      refine OpsE.ev (Ev.move rfl) rfl ?_
      refine OpsE.ev (Ev.move rfl) rfl ?_
      refine OpsE.ev (Ev.lenSl (d := 46) rfl rfl (by kernel_rfl)) rfl ?_
      refine OpsE.ev (Ev.lss (r := false) rfl rfl (decide_eq_false (by (try simp only); omega))) rfl ?_
      refine OpsE.nil ?_
      repeat refine RunsE.seq ?_
      refine RunsE.no rfl ?_
      refine RunsE.exit rfl ?_
      exact next () _ _ H ⟨rfl, rfl, rfl, trivial⟩
    clear next
    have hko : k < out.length := by omega
    obtain ⟨bo, co', eo, _⟩ := hs.row (by omega)
    cases eo
    obtain ⟨kk, hkk, hid, hg⟩ := hstay (at' out k) (hp.perm.subset (List.mem_append_left _ (List.mem_of_getElem? (at_some hko))))
    have hrd : Rd (Bo ++ (A ++ F)) ⟨bo, k * 3 + 0, none⟩ (.int .i64 ((at' out k).id : Int)) := hs.rdEl (fun _ => rfl) (at_some hko) 0 _ rfl
    by_cases h2 : bs.length ≤ kk
    ·
      repeat (first | refine RunsE.seq ?_ | refine RunsE.skip ?_ | refine RunsE.block ?_ | refine RunsE.inBlock ?_ | refine RunsE.yes rfl ?_ | refine RunsE.no rfl ?_ | refine RunsE.exit rfl ?_)
      refine RunsE.region ?_
      refine OpsE.ev (Ev.move rfl) rfl ?_
      refine OpsE.ev (Ev.move rfl) rfl ?_
      refine OpsE.ev (Ev.lenSl (d := 46) rfl rfl (by kernel_rfl)) rfl ?_
      refine OpsE.ev (Ev.lss (r := true) rfl rfl (decide_eq_true (by (try simp only); omega))) rfl ?_
      refine OpsE.nil ?_
      repeat (first | refine RunsE.seq ?_ | refine RunsE.skip ?_ | refine RunsE.block ?_ | refine RunsE.inBlock ?_ | refine RunsE.yes rfl ?_ | refine RunsE.no rfl ?_ | refine RunsE.exit rfl ?_)
      repeat (first | refine RunsE.seq ?_ | refine RunsE.skip ?_ | refine RunsE.block ?_ | refine RunsE.inBlock ?_ | refine RunsE.yes rfl ?_ | refine RunsE.no rfl ?_ | refine RunsE.exit rfl ?_)
      refine RunsE.region ?_
      refine OpsE.ev (Ev.move rfl) rfl ?_
      refine OpsE.ev (Ev.move rfl) rfl ?_
      refine OpsE.ev (Ev.iaSl (n := 46) (sz := 3) (m := k) (o := k * 3) rfl rfl rfl (by kernel_rfl) (by omega) (Nat.zero_add _)) rfl ?_
      refine OpsE.ev (Ev.fieldAddr (o := 0) rfl (by kernel_rfl)) rfl ?_
      refine OpsE.ev (Ev.load H rfl (by kernel_rfl) hrd) rfl ?_
      refine OpsE.ev (Ev.move rfl) rfl ?_
      refine OpsE.ev (Ev.lenSl (d := 4) rfl rfl (by kernel_rfl)) rfl ?_
      refine OpsE.ev (Ev.leq (r := false) rfl rfl (decide_eq_false (by omega))) rfl ?_
      refine OpsE.ev (Ev.move rfl) rfl ?_
      first | (refine OpsE.yes rfl rfl ?_; refine OpsE.ev (Ev.move rfl) rfl ?_) | refine OpsE.no rfl rfl rfl ?_ | refine OpsE.off rfl rfl rfl ?_
      first | (refine OpsE.yes rfl rfl ?_; refine OpsE.ev (Ev.move rfl) rfl ?_) | refine OpsE.no rfl rfl rfl ?_ | refine OpsE.off rfl rfl rfl ?_
      first | (refine OpsE.yes rfl rfl ?_; refine OpsE.ev (Ev.move rfl) rfl ?_) | refine OpsE.no rfl rfl rfl ?_ | refine OpsE.off rfl rfl rfl ?_
      first | (refine OpsE.yes rfl rfl ?_; refine OpsE.ev (Ev.iaSl (n := 46) (sz := 3) rfl rfl rfl (by kernel_rfl) (by omega)) rfl ?_) | refine OpsE.no rfl rfl rfl ?_ | refine OpsE.off rfl rfl rfl ?_
      first | (refine OpsE.yes rfl rfl ?_; refine OpsE.ev (Ev.fieldAddr (o := 0) rfl (by kernel_rfl)) rfl ?_) | refine OpsE.no rfl rfl rfl ?_ | refine OpsE.off rfl rfl rfl ?_
      first | (refine OpsE.yes rfl rfl ?_; refine OpsE.ev (Ev.load H rfl (by kernel_rfl) (by first | exact Rd.mk m0 rfl | exact Rd.mk m1 rfl | exact Rd.mk m2 rfl | exact Rd.mk m3 rfl | assumption)) rfl ?_) | refine OpsE.no rfl rfl rfl ?_ | refine OpsE.off rfl rfl rfl ?_
      first | (refine OpsE.yes rfl rfl ?_; refine OpsE.ev (Ev.sub rfl rfl) rfl ?_) | refine OpsE.no rfl rfl rfl ?_ | refine OpsE.off rfl rfl rfl ?_
      first | (refine OpsE.yes rfl rfl ?_; refine OpsE.ev (Ev.iaSl (n := 4) (sz := 1) rfl rfl rfl (by kernel_rfl) (by omega)) rfl ?_) | refine OpsE.no rfl rfl rfl ?_ | refine OpsE.off rfl rfl rfl ?_
      first | (refine OpsE.yes rfl rfl ?_; refine OpsE.ev (Ev.load H rfl (by kernel_rfl) (by first | exact Rd.mk m0 rfl | exact Rd.mk m1 rfl | exact Rd.mk m2 rfl | exact Rd.mk m3 rfl | assumption)) rfl ?_) | refine OpsE.no rfl rfl rfl ?_ | refine OpsE.off rfl rfl rfl ?_
      refine OpsE.ev ((by first | exact Ev.pickT rfl rfl | exact Ev.pickF rfl rfl)) rfl ?_
      refine OpsE.nil ?_
      repeat refine RunsE.seq ?_
      refine RunsE.no rfl ?_
      refine RunsE.skip ?_
      repeat (first | refine RunsE.seq ?_ | refine RunsE.skip ?_ | refine RunsE.block ?_ | refine RunsE.inBlock ?_ | refine RunsE.yes rfl ?_ | refine RunsE.no rfl ?_ | refine RunsE.exit rfl ?_)
      refine RunsE.region ?_
      refine OpsE.ev (Ev.move rfl) rfl ?_
      refine OpsE.ev (Ev.add rfl rfl) rfl ?_
      refine OpsE.ev (Ev.assign rfl) rfl ?_
      refine OpsE.nil ?_
      exact nextL (k + 1) _ _ (by omega) ⟨by omega, H⟩ ⟨rfl, rfl, rfl, rfl, rfl, trivial⟩
    · obtain ⟨bb, ob, _, rfl, hbr, rfl⟩ := hvb.at (i := kk) (x := false) (by
        rw [List.getD_eq_getElem?_getD, List.getElem?_eq_getElem (by omega)] at hg
        rw [List.getElem?_eq_getElem (by omega), ← hg]; rfl)
      repeat (first | refine RunsE.seq ?_ | refine RunsE.skip ?_ | refine RunsE.block ?_ | refine RunsE.inBlock ?_ | refine RunsE.yes rfl ?_ | refine RunsE.no rfl ?_ | refine RunsE.exit rfl ?_)
      refine RunsE.region ?_
      refine OpsE.ev (Ev.move rfl) rfl ?_
      refine OpsE.ev (Ev.move rfl) rfl ?_
      refine OpsE.ev (Ev.lenSl (d := 46) rfl rfl (by kernel_rfl)) rfl ?_
      refine OpsE.ev (Ev.lss (r := true) rfl rfl (decide_eq_true (by (try simp only); omega))) rfl ?_
      refine OpsE.nil ?_
      repeat (first | refine RunsE.seq ?_ | refine RunsE.skip ?_ | refine RunsE.block ?_ | refine RunsE.inBlock ?_ | refine RunsE.yes rfl ?_ | refine RunsE.no rfl ?_ | refine RunsE.exit rfl ?_)
      repeat (first | refine RunsE.seq ?_ | refine RunsE.skip ?_ | refine RunsE.block ?_ | refine RunsE.inBlock ?_ | refine RunsE.yes rfl ?_ | refine RunsE.no rfl ?_ | refine RunsE.exit rfl ?_)
      refine RunsE.region ?_
      refine OpsE.ev (Ev.move rfl) rfl ?_
      refine OpsE.ev (Ev.move rfl) rfl ?_
      refine OpsE.ev (Ev.iaSl (n := 46) (sz := 3) (m := k) (o := k * 3) rfl rfl rfl (by kernel_rfl) (by omega) (Nat.zero_add _)) rfl ?_
      refine OpsE.ev (Ev.fieldAddr (o := 0) rfl (by kernel_rfl)) rfl ?_
      refine OpsE.ev (Ev.load H rfl (by kernel_rfl) hrd) rfl ?_
      refine OpsE.ev (Ev.move rfl) rfl ?_
      refine OpsE.ev (Ev.lenSl (d := 4) rfl rfl (by kernel_rfl)) rfl ?_
      refine OpsE.ev (Ev.leq (r := true) rfl rfl (decide_eq_true (by omega))) rfl ?_
      refine OpsE.ev (Ev.move rfl) rfl ?_
      first | (refine OpsE.yes rfl rfl ?_; refine OpsE.ev (Ev.move rfl) rfl ?_) | refine OpsE.no rfl rfl rfl ?_ | refine OpsE.off rfl rfl rfl ?_
      first | (refine OpsE.yes rfl rfl ?_; refine OpsE.ev (Ev.move rfl) rfl ?_) | refine OpsE.no rfl rfl rfl ?_ | refine OpsE.off rfl rfl rfl ?_
      first | (refine OpsE.yes rfl rfl ?_; refine OpsE.ev (Ev.move rfl) rfl ?_) | refine OpsE.no rfl rfl rfl ?_ | refine OpsE.off rfl rfl rfl ?_
      first | (refine OpsE.yes rfl rfl ?_; refine OpsE.ev (Ev.iaSl (n := 46) (sz := 3) (m := k) (o := k * 3) rfl rfl rfl (by kernel_rfl) (by omega) (Nat.zero_add _)) rfl ?_) | refine OpsE.no rfl rfl rfl ?_ | refine OpsE.off rfl rfl rfl ?_
      first | (refine OpsE.yes rfl rfl ?_; refine OpsE.ev (Ev.fieldAddr (o := 0) rfl (by kernel_rfl)) rfl ?_) | refine OpsE.no rfl rfl rfl ?_ | refine OpsE.off rfl rfl rfl ?_
      first | (refine OpsE.yes rfl rfl ?_; refine OpsE.ev (Ev.load H rfl (by kernel_rfl) hrd) rfl ?_) | refine OpsE.no rfl rfl rfl ?_ | refine OpsE.off rfl rfl rfl ?_
      first | (refine OpsE.yes rfl rfl ?_; refine OpsE.ev (Ev.sub (c := (kk : Int)) rfl rfl (by (try simp only); rw [qi64 (by omega) (by omega)]; omega)) rfl ?_) | refine OpsE.no rfl rfl rfl ?_ | refine OpsE.off rfl rfl rfl ?_
      first | (refine OpsE.yes rfl rfl ?_; refine OpsE.ev (Ev.iaSl (n := 4) (sz := 1) (m := kk) (o := ob + kk) rfl rfl rfl (by kernel_rfl) (by omega) (by omega)) rfl ?_) | refine OpsE.no rfl rfl rfl ?_ | refine OpsE.off rfl rfl rfl ?_
      first | (refine OpsE.yes rfl rfl ?_; refine OpsE.ev (Ev.load H rfl (by kernel_rfl) hbr.right.right) rfl ?_) | refine OpsE.no rfl rfl rfl ?_ | refine OpsE.off rfl rfl rfl ?_
      refine OpsE.ev ((by first | exact Ev.pickT rfl rfl | exact Ev.pickF rfl rfl)) rfl ?_
      refine OpsE.nil ?_
      repeat refine RunsE.seq ?_
      refine RunsE.no rfl ?_
      refine RunsE.skip ?_
      repeat (first | refine RunsE.seq ?_ | refine RunsE.skip ?_ | refine RunsE.block ?_ | refine RunsE.inBlock ?_ | refine RunsE.yes rfl ?_ | refine RunsE.no rfl ?_ | refine RunsE.exit rfl ?_)
      refine RunsE.region ?_
      refine OpsE.ev (Ev.move rfl) rfl ?_
      refine OpsE.ev (Ev.add rfl rfl) rfl ?_
      refine OpsE.ev (Ev.assign rfl) rfl ?_
      refine OpsE.nil ?_
      exact nextL (k + 1) _ _ (by omega) ⟨by omega, H⟩ ⟨rfl, rfl, rfl, rfl, rfl, trivial⟩
  clear H
  rintro _ w H
  repeat (first | refine RunsE.seq ?_ | refine RunsE.skip ?_ | refine RunsE.block ?_ | refine RunsE.inBlock ?_ | refine RunsE.yes rfl ?_ | refine RunsE.no rfl ?_ | refine RunsE.exit rfl ?_)
  refine RunsE.region ?_
  refine OpsE.ev (Ev.move rfl) rfl ?_
  refine OpsE.ev (Ev.lenSl (d := 46) rfl rfl (by kernel_rfl)) rfl ?_
  refine OpsE.ev (Ev.move rfl) rfl ?_
  refine OpsE.ev (Ev.eql (r := true) rfl rfl (beq_iff_eq.2 (by omega))) rfl ?_
  refine OpsE.ev (Ev.move rfl) rfl ?_
  first | (refine OpsE.yes rfl rfl ?_; refine OpsE.ev (Ev.move rfl) rfl ?_) | refine OpsE.no rfl rfl rfl ?_ | refine OpsE.off rfl rfl rfl ?_
  first | (refine OpsE.yes rfl rfl ?_; refine OpsE.ex (Ex.call rfl Tryd.call15 (tlen_spec b [] n A w _ hA H.swapL)) rfl ?_; (try clear H); rintro _ w ⟨rfl, H⟩) | refine OpsE.no rfl rfl rfl ?_ | refine OpsE.off rfl rfl rfl ?_
  first | (refine OpsE.yes rfl rfl ?_; refine OpsE.ev (Ev.eql (r := true) rfl rfl rfl) rfl ?_) | refine OpsE.no rfl rfl rfl ?_ | refine OpsE.off rfl rfl rfl ?_
  refine OpsE.ev ((by first | exact Ev.pickT rfl rfl | exact Ev.pickF rfl rfl)) rfl ?_
  refine OpsE.ev (Ev.move rfl) rfl ?_
  first | (refine OpsE.yes rfl rfl ?_; refine OpsE.ex (Ex.call rfl Tryd.call12 (sure_spec w _ H)) rfl ?_; (try clear H); rintro _ w ⟨rfl, H⟩) | refine OpsE.no rfl rfl rfl ?_ | refine OpsE.off rfl rfl rfl ?_
  refine OpsE.ev ((by first | exact Ev.pickT rfl rfl | exact Ev.pickF rfl rfl)) rfl ?_
  refine OpsE.ev (Ev.assign rfl) rfl ?_
  refine OpsE.nil ?_
  repeat (first | refine RunsE.seq ?_ | refine RunsE.skip ?_ | refine RunsE.block ?_ | refine RunsE.inBlock ?_ | refine RunsE.yes rfl ?_ | refine RunsE.no rfl ?_ | refine RunsE.exit rfl ?_)
  exact RunsE.ret1 Tryd.func4 rfl rfl ⟨rfl, H.dropL.dropL⟩

end Go.Proofs.YtgeocehgobcdjaaDoor
