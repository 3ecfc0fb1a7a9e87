/-
  The statement 'PagesCrash': its function, walked.
-/
import Derived.Test.YtoiehgiokfnmkaaDoorPagesD
import Derived.Test.YtoiehgiokfnmkaaDoorPagesActs
import Derived.Test.YtoiehgiokfnmkaaDoorNumS
namespace Go.Proofs.YtoiehgiokfnmkaaDoor.V

/-- A store that was armed with n steps, behind i of them. -/
structure StCr (s : St) (n i : Nat) : Prop where
  pages : s.P.length = 2
  queue : s.Q.length ≤ i
  how : (i ≤ n ∧ s.armed = true ∧ s.left = n - i ∧ s.down = false) ∨ (n < i ∧ s.down = true)

/-- What one more of them tells: nothing, or that it is down. -/
structure StStep (s : St) (n i e : Nat) : Prop where
  next : StCr s n (i + 1)
  err : (i < n ∧ e = 0 ∧ s.down = false) ∨ (n ≤ i ∧ e = 13 ∧ s.down = true)

theorem StCr.step {s : St} {n i : Nat} (h : StCr s n i) (hd : s.down = false) {s' : St} (h1 : s'.P.length = 2) (h2 : s'.Q.length ≤ i + 1) (h3 : s'.left = s.left) (h4 : s'.armed = s.armed) (h5 : s'.down = s.down) : StStep s'.step.1 n i s'.step.2 := by
  rcases h.how with ⟨ha, hb, hc, hd'⟩ | ⟨ha, hb⟩
  · by_cases h0 : i = n
    · have e : s'.step = ({ s' with down := true, armed := false }, 13) := by simp [St.step, h3, h4, hb, hc, h0]
      rw [e]
      exact ⟨⟨h1, h2, .inr ⟨by omega, rfl⟩⟩, .inr ⟨by omega, rfl, rfl⟩⟩
    · have e : s'.step = ({ s' with left := s'.left - 1 }, 0) := by
        have : ¬ n - i = 0 := by omega
        simp [St.step, h3, h4, hb, hc, this]
      rw [e]
      exact ⟨⟨h1, h2, .inl ⟨by omega, by rw [← hb, ← h4], by simp only; rw [h3, hc]; omega, by rw [← hd, ← h5]⟩⟩, .inl ⟨by omega, rfl, by rw [← hd, ← h5]⟩⟩
  · rw [hb] at hd; cases hd

theorem StCr.downS {s : St} {n i : Nat} (h : StCr s n i) (hd : s.down = true) : StStep s n i 13 := by
  rcases h.how with ⟨_, _, _, hd'⟩ | ⟨ha, hb⟩
  · rw [hd] at hd'; cases hd'
  · exact ⟨⟨h.pages, Nat.le_succ_of_le h.queue, .inr ⟨by omega, hd⟩⟩, .inr ⟨by omega, rfl, hd⟩⟩

theorem StCr.write {s : St} {n i : Nat} (h : StCr s n i) : StStep (s.write 1 [120]).1 n i (s.write 1 [120]).2 := by
  have hh : s.has 1 = true := by
    have := h.pages
    simp only [St.has, Bool.and_eq_true, decide_eq_true_eq]
    omega
  by_cases hd : s.down = true
  · have e : s.write 1 [120] = (s, 13) := by simp [St.write, hh, hd]
    rw [e]
    exact h.downS hd
  · have hd' : s.down = false := by simpa using hd
    have e : s.write 1 [120] = (s.push 1 [120]).step := by simp [St.write, hh, hd']
    rw [e]
    exact h.step hd' h.pages (by simp only [St.push, List.length_append, List.length_singleton]; have := h.queue; omega) rfl rfl rfl

theorem StCr.sync {s : St} {n i : Nat} (h : StCr s n i) : StStep s.sync.1 n i s.sync.2 := by
  by_cases hd : s.down = true
  · have e : s.sync = (s, 13) := by simp [St.sync, hd]
    rw [e]
    exact h.downS hd
  · have hd' : s.down = false := by simpa using hd
    have h1 := h.step hd' h.pages (Nat.le_succ_of_le h.queue) rfl rfl rfl
    by_cases h0 : s.step.2 = 0
    · have e : s.sync = (s.step.1.settle fun _ => true, 0) := by simp [St.sync, hd', h0]
      rw [e]
      rw [h0] at h1
      exact ⟨⟨by simp only [St.settle, setl_len]; exact h1.next.pages, by simp [St.settle], h1.next.how⟩, h1.err⟩
    · have e : s.sync = s.step := by simp [St.sync, hd', h0]
      rw [e]
      exact h1

end Go.Proofs.YtoiehgiokfnmkaaDoor.V
namespace Go.Proofs.YtoiehgiokfnmkaaDoor
open Go.Proofs.YtoiehgiokfnmkaaDoor.V

set_option maxHeartbeats 2000000 in
theorem crashlaw_spec [Strm] (steps : Int) (ks : List Bool) (vk : Value) (w : World) (F : List (Nat × Obj)) (hvk : BoolsIn F vk ks) (hE : ErrIn F) (H : SL w F) :
    Does Tryd.prog 4 #[.int .i64 steps, vk] w fun r w' => r = .bool true ∧ SL w' F := by
  obtain ⟨ak, ck, rfl, hck⟩ := hvk.len
  obtain ⟨m, hm, _⟩ := u64_nat steps
  obtain ⟨n, hn⟩ : ∃ n, n = m % 15 := ⟨_, rfl⟩
  have hn15 : n < 15 := by omega
  refine Does.intro (args := [_, _]) (e := [(0, _), (1, _)]) Tryd.func4 rfl Tryd.ntmps4 rfl rfl ?_
  repeat (first | refine RunsE.seq ?_ | refine RunsE.skip ?_ | refine RunsE.block ?_ | refine RunsE.inBlock ?_ | refine RunsE.yes rfl ?_ | refine RunsE.no rfl ?_ | refine RunsE.exit rfl ?_)
  repeat (first | refine RunsE.seq ?_ | refine RunsE.skip ?_ | refine RunsE.block ?_ | refine RunsE.inBlock ?_ | refine RunsE.yes rfl ?_ | refine RunsE.no rfl ?_ | refine RunsE.exit rfl ?_)
  refine RunsE.region ?_
  refine OpsE.ev (Ev.assign rfl) rfl ?_
  refine OpsE.nil ?_
  repeat (first | refine RunsE.seq ?_ | refine RunsE.skip ?_ | refine RunsE.block ?_ | refine RunsE.inBlock ?_ | refine RunsE.yes rfl ?_ | refine RunsE.no rfl ?_ | refine RunsE.exit rfl ?_)
  refine RunsE.region ?_
  refine OpsE.ex (Ex.call rfl Tryd.call14 (new_spec 2 (by decide) (by decide) w _ H)) rfl ?_; (try clear H); rintro _ w ⟨b, A, rfl, hA, H⟩
  refine OpsE.ev (Ev.move rfl) rfl ?_
  refine OpsE.ev (Ev.extract rfl rfl) rfl ?_
  refine OpsE.ev (Ev.extract rfl rfl) rfl ?_
  refine OpsE.ev (Ev.assign rfl) rfl ?_
  refine OpsE.ev (Ev.assign rfl) rfl ?_
  refine OpsE.nil ?_
  repeat (first | refine RunsE.seq ?_ | refine RunsE.skip ?_ | refine RunsE.block ?_ | refine RunsE.inBlock ?_ | refine RunsE.yes rfl ?_ | refine RunsE.no rfl ?_ | refine RunsE.exit rfl ?_)
  refine RunsE.region ?_
  refine OpsE.ev (Ev.move rfl) rfl ?_
  refine OpsE.ev (Ev.conv (k' := .u64) (c := (m : Int)) rfl (by kernel_rfl) (by kernel_rfl) hm) rfl ?_
  refine OpsE.ev (Ev.rem (c := (n : Int)) rfl rfl (by omega) (by rw [hn]; exact qrem m 15)) rfl ?_
  refine OpsE.ev (Ev.conv (k' := .i64) (c := (n : Int)) rfl (by kernel_rfl) (by kernel_rfl) (qi64 (by omega) (by omega))) rfl ?_
  refine OpsE.ev (Ev.assign rfl) rfl ?_
  refine OpsE.nil ?_
  repeat (first | refine RunsE.seq ?_ | refine RunsE.skip ?_ | refine RunsE.block ?_ | refine RunsE.inBlock ?_ | refine RunsE.yes rfl ?_ | refine RunsE.no rfl ?_ | refine RunsE.exit rfl ?_)
  refine RunsE.region ?_
  refine OpsE.ev (Ev.move rfl) rfl ?_
  refine OpsE.ev (Ev.ifNilNeF rfl Tryd.underlying26) rfl ?_
  refine OpsE.ev (Ev.move rfl) rfl ?_
  first | (refine OpsE.yes rfl rfl ?_; refine OpsE.ev (Ev.move rfl) rfl ?_) | refine OpsE.no rfl rfl rfl ?_ | refine OpsE.off rfl rfl rfl ?_
  first | (refine OpsE.yes rfl rfl ?_; refine OpsE.ev (Ev.ptrNilEq (el := 62) rfl rfl (by kernel_rfl)) rfl ?_) | refine OpsE.no rfl rfl rfl ?_ | refine OpsE.off rfl rfl rfl ?_
  refine OpsE.ev ((by first | exact Ev.pickT rfl rfl | exact Ev.pickF rfl rfl)) rfl ?_
  refine OpsE.ev (Ev.move rfl) rfl ?_
  first | (refine OpsE.yes rfl rfl ?_; refine OpsE.ev (Ev.move rfl) rfl ?_) | refine OpsE.no rfl rfl rfl ?_ | refine OpsE.off rfl rfl rfl ?_
  first | (refine OpsE.yes rfl rfl ?_; refine OpsE.ev (Ev.move rfl) rfl ?_) | refine OpsE.no rfl rfl rfl ?_ | refine OpsE.off rfl rfl rfl ?_
  first | (refine OpsE.yes rfl rfl ?_; refine OpsE.ex (Ex.call rfl Tryd.call10 (arm_spec (St.new 2) n (by omega) b A w _ hA H)) rfl ?_; (try clear H); rintro _ w ⟨A, rfl, hA, H⟩) | refine OpsE.no rfl rfl rfl ?_ | refine OpsE.off rfl rfl rfl ?_
  first | (refine OpsE.yes rfl rfl ?_; refine OpsE.ev (Ev.ifNilNeF rfl Tryd.underlying26) rfl ?_) | refine OpsE.no rfl rfl rfl ?_ | refine OpsE.off rfl rfl rfl ?_
  refine OpsE.ev ((by first | exact Ev.pickT rfl rfl | exact Ev.pickF rfl rfl)) rfl ?_
  refine OpsE.nil ?_
  repeat (first | refine RunsE.seq ?_ | refine RunsE.skip ?_ | refine RunsE.block ?_ | refine RunsE.inBlock ?_ | refine RunsE.yes rfl ?_ | refine RunsE.no rfl ?_ | refine RunsE.exit rfl ?_)
  refine RunsE.region ?_
  refine OpsE.ev (Ev.assign rfl) rfl ?_
  refine OpsE.nil ?_
  repeat refine RunsE.seq ?_
  refine RunsE.join (fun _ : Unit => [(5, .pointer (some ⟨b, 0, none⟩))]) (fun _ w => ∃ s A, s.P.length = 2 ∧ s.Q.length ≤ 25 ∧ HoldS b s A ∧ SL w (A ++ F)) (fun next => ?_) ?_
  · refine RunsE.block ?_
    refine RunsE.loop (fun i : Nat => [(1, .slice ak ks.length ck), (5, .pointer (some ⟨b, 0, none⟩)), (7, .int .i64 (n : Int)), (8, .int .i64 (i : Int))])
      (fun i w => i ≤ 25 ∧ ∃ s A, StCr s n i ∧ HoldS b s A ∧ SL w (A ++ F)) (fun i => 25 - i) 0 ⟨rfl, rfl, rfl, rfl, trivial⟩ ⟨by omega, (St.new 2).arm n, A, ⟨rfl, by simp [St.arm, St.new], .inl ⟨by omega, rfl, by simp [St.arm], rfl⟩⟩, hA, H⟩ ?_
    clear H hA A
    rintro i w ⟨hi, s, A, hc, hA, H⟩ nextL
    have hq := hc.queue
    by_cases h1 : ks.length ≤ i
    ·
      repeat (first | refine RunsE.seq ?_ | refine RunsE.skip ?_ | refine RunsE.block ?_ | refine RunsE.inBlock ?_ | refine RunsE.yes rfl ?_ | refine RunsE.no rfl ?_ | refine RunsE.exit rfl ?_)
      refine RunsE.region ?_
      refine OpsE.ev (Ev.move rfl) rfl ?_
      refine OpsE.ev (Ev.move rfl) rfl ?_
      refine OpsE.ev (Ev.lenSl (d := 4) rfl rfl (by kernel_rfl)) rfl ?_
      refine OpsE.ev (Ev.lss (r := false) rfl rfl (decide_eq_false (by omega))) rfl ?_
      refine OpsE.ev (Ev.move rfl) rfl ?_
      first | (refine OpsE.yes rfl rfl ?_; refine OpsE.ev (Ev.move rfl) rfl ?_) | refine OpsE.no rfl rfl rfl ?_ | refine OpsE.off rfl rfl rfl ?_
      first | (refine OpsE.yes rfl rfl ?_; refine OpsE.ev (Ev.lss rfl rfl) rfl ?_) | refine OpsE.no rfl rfl rfl ?_ | refine OpsE.off rfl rfl rfl ?_
      refine OpsE.ev ((by first | exact Ev.pickT rfl rfl | exact Ev.pickF rfl rfl)) rfl ?_
      refine OpsE.nil ?_
      repeat refine RunsE.seq ?_
      refine RunsE.no rfl ?_
      refine RunsE.exit rfl ?_
      exact next () _ _ ⟨s, A, hc.pages, by omega, hA, H⟩ ⟨rfl, trivial⟩
    by_cases h2 : i = 25
    ·
      repeat (first | refine RunsE.seq ?_ | refine RunsE.skip ?_ | refine RunsE.block ?_ | refine RunsE.inBlock ?_ | refine RunsE.yes rfl ?_ | refine RunsE.no rfl ?_ | refine RunsE.exit rfl ?_)
      refine RunsE.region ?_
      refine OpsE.ev (Ev.move rfl) rfl ?_
      refine OpsE.ev (Ev.move rfl) rfl ?_
      refine OpsE.ev (Ev.lenSl (d := 4) rfl rfl (by kernel_rfl)) rfl ?_
      refine OpsE.ev (Ev.lss (r := true) rfl rfl (decide_eq_true (by omega))) rfl ?_
      refine OpsE.ev (Ev.move rfl) rfl ?_
      first | (refine OpsE.yes rfl rfl ?_; refine OpsE.ev (Ev.move rfl) rfl ?_) | refine OpsE.no rfl rfl rfl ?_ | refine OpsE.off rfl rfl rfl ?_
      first | (refine OpsE.yes rfl rfl ?_; refine OpsE.ev (Ev.lss (r := false) rfl rfl (decide_eq_false (by omega))) rfl ?_) | refine OpsE.no rfl rfl rfl ?_ | refine OpsE.off rfl rfl rfl ?_
      refine OpsE.ev ((by first | exact Ev.pickT rfl rfl | exact Ev.pickF rfl rfl)) rfl ?_
      refine OpsE.nil ?_
      repeat refine RunsE.seq ?_
      refine RunsE.no rfl ?_
      refine RunsE.exit rfl ?_
      exact next () _ _ ⟨s, A, hc.pages, by omega, hA, H⟩ ⟨rfl, trivial⟩
    clear next
    obtain ⟨k, hk⟩ : ∃ k, ks[i]? = some k := ⟨ks[i]'(by omega), by simp [show i < ks.length by omega]⟩
    obtain ⟨bk, ok, _, rfl, hkr, rfl⟩ := hvk.at hk
    repeat (first | refine RunsE.seq ?_ | refine RunsE.skip ?_ | refine RunsE.block ?_ | refine RunsE.inBlock ?_ | refine RunsE.yes rfl ?_ | refine RunsE.no rfl ?_ | refine RunsE.exit rfl ?_)
    refine RunsE.region ?_
    refine OpsE.ev (Ev.move rfl) rfl ?_
    refine OpsE.ev (Ev.move rfl) rfl ?_
    refine OpsE.ev (Ev.lenSl (d := 4) rfl rfl (by kernel_rfl)) rfl ?_
    refine OpsE.ev (Ev.lss (r := true) rfl rfl (decide_eq_true (by omega))) rfl ?_
    refine OpsE.ev (Ev.move rfl) rfl ?_
    first | (refine OpsE.yes rfl rfl ?_; refine OpsE.ev (Ev.move rfl) rfl ?_) | refine OpsE.no rfl rfl rfl ?_ | refine OpsE.off rfl rfl rfl ?_
    first | (refine OpsE.yes rfl rfl ?_; refine OpsE.ev (Ev.lss (r := true) rfl rfl (decide_eq_true (by omega))) rfl ?_) | refine OpsE.no rfl rfl rfl ?_ | refine OpsE.off rfl rfl rfl ?_
    refine OpsE.ev ((by first | exact Ev.pickT rfl rfl | exact Ev.pickF rfl rfl)) rfl ?_
    refine OpsE.nil ?_
    repeat (first | refine RunsE.seq ?_ | refine RunsE.skip ?_ | refine RunsE.block ?_ | refine RunsE.inBlock ?_ | refine RunsE.yes rfl ?_ | refine RunsE.no rfl ?_ | refine RunsE.exit rfl ?_)
    repeat (first | refine RunsE.seq ?_ | refine RunsE.skip ?_ | refine RunsE.block ?_ | refine RunsE.inBlock ?_ | refine RunsE.yes rfl ?_ | refine RunsE.no rfl ?_ | refine RunsE.exit rfl ?_)
    refine RunsE.region ?_
    refine OpsE.ev (Ev.assign rfl) rfl ?_
    refine OpsE.nil ?_
    repeat (first | refine RunsE.seq ?_ | refine RunsE.skip ?_ | refine RunsE.block ?_ | refine RunsE.inBlock ?_ | refine RunsE.yes rfl ?_ | refine RunsE.no rfl ?_ | refine RunsE.exit rfl ?_)
    refine RunsE.region ?_
    refine OpsE.ev (Ev.move rfl) rfl ?_
    refine OpsE.ev (Ev.move rfl) rfl ?_
    refine OpsE.ev (Ev.iaSl (n := 4) (sz := 1) (m := i) (o := ok + i) rfl rfl rfl (by kernel_rfl) (by omega) (by omega)) rfl ?_
    refine OpsE.ev (Ev.load H rfl (by kernel_rfl) hkr.right) rfl ?_
    refine OpsE.nil ?_
    repeat refine RunsE.seq ?_
    refine RunsE.join (fun x : Nat => [(1, .slice (some ⟨bk, ok, none⟩) ks.length ck), (5, .pointer (some ⟨b, 0, none⟩)), (7, .int .i64 (n : Int)), (8, .int .i64 (i : Int)), (9, EV x)])
      (fun x w => ∃ s A, StStep s n i x ∧ HoldS b s A ∧ SL w (A ++ F)) (fun next => ?_) ?_
    · cases k with
      | true =>
        repeat refine RunsE.seq ?_
        refine RunsE.yes rfl ?_
        repeat (first | refine RunsE.seq ?_ | refine RunsE.skip ?_ | refine RunsE.block ?_ | refine RunsE.inBlock ?_ | refine RunsE.yes rfl ?_ | refine RunsE.no rfl ?_ | refine RunsE.exit rfl ?_)
        refine RunsE.region ?_
        refine OpsE.ev (Ev.move rfl) rfl ?_
        refine OpsE.ex (Ex.buildSl (T := 5) (zv := .int .u8 0) H rfl (by kernel_rfl) (by kernel_rfl) (by simp [Value.oneCell']) rfl (by omega) (by omega)) rfl ?_; (try clear H); rintro _ w ⟨b49, rfl, H⟩
        refine OpsE.ex (Ex.mark (el := 5) (T := 5) H rfl (by kernel_rfl) (by kernel_rfl) u0) rfl ?_; (try clear H); rintro _ w ⟨rfl, H⟩; replace H := H.mid
        refine OpsE.ex (Ex.call rfl Tryd.call8 (write_spec s 1 [120] _ b A (by omega) (by decide) w _ hA (Inp.lit (bs := [120]) m0) H)) rfl ?_; (try clear H); rintro _ w ⟨A, rfl, hA, H⟩; replace H := H.dropMid
        refine OpsE.ev (Ev.assign rfl) rfl ?_
        refine OpsE.nil ?_
        exact next _ _ _ ⟨_, A, hc.write, hA, H⟩ ⟨rfl, rfl, rfl, rfl, rfl, trivial⟩
      | false =>
        repeat refine RunsE.seq ?_
        refine RunsE.no rfl ?_
        repeat (first | refine RunsE.seq ?_ | refine RunsE.skip ?_ | refine RunsE.block ?_ | refine RunsE.inBlock ?_ | refine RunsE.yes rfl ?_ | refine RunsE.no rfl ?_ | refine RunsE.exit rfl ?_)
        refine RunsE.region ?_
        refine OpsE.ev (Ev.move rfl) rfl ?_
        refine OpsE.ex (Ex.call rfl Tryd.call9 (sync_spec s b A (by omega) w _ hA H)) rfl ?_; (try clear H); rintro _ w ⟨A, rfl, hA, H⟩
        refine OpsE.ev (Ev.assign rfl) rfl ?_
        refine OpsE.nil ?_
        exact next _ _ _ ⟨_, A, hc.sync, hA, H⟩ ⟨rfl, rfl, rfl, rfl, rfl, trivial⟩
    clear H hA A hc hq s
    rintro x w ⟨s, A, hs, hA, H⟩
    rcases hs.err with ⟨h3, rfl, hd⟩ | ⟨h3, rfl, hd⟩
    · have hEV : EV 0 = .nilIface := rfl
      rw [hEV]
      repeat (first | refine RunsE.seq ?_ | refine RunsE.skip ?_ | refine RunsE.block ?_ | refine RunsE.inBlock ?_ | refine RunsE.yes rfl ?_ | refine RunsE.no rfl ?_ | refine RunsE.exit rfl ?_)
      refine RunsE.region ?_
      refine OpsE.ev (Ev.move rfl) rfl ?_
      refine OpsE.ev (Ev.ifNilEqT rfl Tryd.underlying26) rfl ?_
      refine OpsE.ev (Ev.move rfl) rfl ?_
      refine OpsE.ev (Ev.move rfl) rfl ?_
      refine OpsE.ev (Ev.lss (r := true) rfl rfl (decide_eq_true (by omega))) rfl ?_
      refine OpsE.ev (Ev.boolNe (r := false) rfl rfl Tryd.underlying4) rfl ?_
      refine OpsE.ev (Ev.move rfl) rfl ?_
      first | (refine OpsE.yes rfl rfl ?_; refine OpsE.ev (Ev.move rfl) rfl ?_) | refine OpsE.no rfl rfl rfl ?_ | refine OpsE.off rfl rfl rfl ?_
      first | (refine OpsE.yes rfl rfl ?_; refine OpsE.ev (Ev.ifNilNeF rfl Tryd.underlying26) rfl ?_) | refine OpsE.no rfl rfl rfl ?_ | refine OpsE.off rfl rfl rfl ?_
      first | (refine OpsE.yes rfl rfl ?_; refine OpsE.ev (Ev.move rfl) rfl ?_) | refine OpsE.no rfl rfl rfl ?_ | refine OpsE.off rfl rfl rfl ?_
      first | (refine OpsE.yes rfl rfl ?_; refine OpsE.ev (Ev.move rfl) rfl ?_) | refine OpsE.no rfl rfl rfl ?_ | refine OpsE.off rfl rfl rfl ?_
      first | (refine OpsE.yes rfl rfl ?_; refine OpsE.ex (Ex.call rfl Tryd.call7 (?spec)) rfl ?_; (try clear H); rintro _ w ⟨rfl, H⟩) | refine OpsE.no rfl rfl rfl ?_ | refine OpsE.off rfl rfl rfl ?_
      first | (refine OpsE.yes rfl rfl ?_; refine OpsE.ev (Ev.neq rfl rfl) rfl ?_) | refine OpsE.no rfl rfl rfl ?_ | refine OpsE.off rfl rfl rfl ?_
      first | (refine OpsE.yes rfl rfl ?_; refine OpsE.ev ((by first | exact Ev.pickT rfl rfl | exact Ev.pickF rfl rfl)) rfl ?_) | refine OpsE.no rfl rfl rfl ?_ | refine OpsE.off rfl rfl rfl ?_
      refine OpsE.ev ((by first | exact Ev.pickT rfl rfl | exact Ev.pickF rfl rfl)) rfl ?_
      refine OpsE.ev (Ev.move rfl) rfl ?_
      first | (refine OpsE.yes rfl rfl ?_; refine OpsE.ev (Ev.move rfl) rfl ?_) | refine OpsE.no rfl rfl rfl ?_ | refine OpsE.off rfl rfl rfl ?_
      first | (refine OpsE.yes rfl rfl ?_; refine OpsE.ex (Ex.call rfl Tryd.call13 (down_spec s b A w _ hA H)) rfl ?_; (try clear H); rw [hd]; rintro _ w ⟨rfl, H⟩) | refine OpsE.no rfl rfl rfl ?_ | refine OpsE.off rfl rfl rfl ?_
      first | (refine OpsE.yes rfl rfl ?_; refine OpsE.ev (Ev.move rfl) rfl ?_) | refine OpsE.no rfl rfl rfl ?_ | refine OpsE.off rfl rfl rfl ?_
      first | (refine OpsE.yes rfl rfl ?_; refine OpsE.ev (Ev.move rfl) rfl ?_) | refine OpsE.no rfl rfl rfl ?_ | refine OpsE.off rfl rfl rfl ?_
      first | (refine OpsE.yes rfl rfl ?_; refine OpsE.ev (Ev.geq (r := false) rfl rfl (decide_eq_false (by omega))) rfl ?_) | refine OpsE.no rfl rfl rfl ?_ | refine OpsE.off rfl rfl rfl ?_
      first | (refine OpsE.yes rfl rfl ?_; refine OpsE.ev (Ev.boolNe (r := false) rfl rfl Tryd.underlying4) rfl ?_) | refine OpsE.no rfl rfl rfl ?_ | refine OpsE.off rfl rfl rfl ?_
      refine OpsE.ev ((by first | exact Ev.pickT rfl rfl | exact Ev.pickF rfl rfl)) rfl ?_
      refine OpsE.nil ?_
      repeat (first | refine RunsE.seq ?_ | refine RunsE.skip ?_ | refine RunsE.block ?_ | refine RunsE.inBlock ?_ | refine RunsE.yes rfl ?_ | refine RunsE.no rfl ?_ | refine RunsE.exit rfl ?_)
      refine RunsE.region ?_
      refine OpsE.ev (Ev.move rfl) rfl ?_
      refine OpsE.ex (Ex.call rfl Tryd.call13 (down_spec s b A w _ hA H)) rfl ?_; (try clear H); rw [hd]; rintro _ w ⟨rfl, H⟩
      refine OpsE.nil ?_
      repeat (first | refine RunsE.seq ?_ | refine RunsE.skip ?_ | refine RunsE.block ?_ | refine RunsE.inBlock ?_ | refine RunsE.yes rfl ?_ | refine RunsE.no rfl ?_ | refine RunsE.exit rfl ?_)
      refine RunsE.region ?_
      refine OpsE.ev (Ev.move rfl) rfl ?_
      refine OpsE.ev (Ev.add rfl rfl) rfl ?_
      refine OpsE.ev (Ev.assign rfl) rfl ?_
      refine OpsE.nil ?_
      exact nextL (i + 1) _ _ (by omega) ⟨by omega, s, A, hs.next, hA, H⟩ ⟨rfl, rfl, rfl, rfl, trivial⟩
    · have hEV : EV 13 = .iface 59 (.int .i64 13) := rfl
      rw [hEV]
      repeat (first | refine RunsE.seq ?_ | refine RunsE.skip ?_ | refine RunsE.block ?_ | refine RunsE.inBlock ?_ | refine RunsE.yes rfl ?_ | refine RunsE.no rfl ?_ | refine RunsE.exit rfl ?_)
      refine RunsE.region ?_
      refine OpsE.ev (Ev.move rfl) rfl ?_
      refine OpsE.ev (Ev.ifNilEq rfl Tryd.underlying26) rfl ?_
      refine OpsE.ev (Ev.move rfl) rfl ?_
      refine OpsE.ev (Ev.move rfl) rfl ?_
      refine OpsE.ev (Ev.lss (r := false) rfl rfl (decide_eq_false (by omega))) rfl ?_
      refine OpsE.ev (Ev.boolNe (r := false) rfl rfl Tryd.underlying4) rfl ?_
      refine OpsE.ev (Ev.move rfl) rfl ?_
      first | (refine OpsE.yes rfl rfl ?_; refine OpsE.ev (Ev.move rfl) rfl ?_) | refine OpsE.no rfl rfl rfl ?_ | refine OpsE.off rfl rfl rfl ?_
      first | (refine OpsE.yes rfl rfl ?_; refine OpsE.ev (Ev.ifNilNe rfl Tryd.underlying26) rfl ?_) | refine OpsE.no rfl rfl rfl ?_ | refine OpsE.off rfl rfl rfl ?_
      first | (refine OpsE.yes rfl rfl ?_; refine OpsE.ev (Ev.move rfl) rfl ?_) | refine OpsE.no rfl rfl rfl ?_ | refine OpsE.off rfl rfl rfl ?_
      first | (refine OpsE.yes rfl rfl ?_; refine OpsE.ev (Ev.move rfl) rfl ?_) | refine OpsE.no rfl rfl rfl ?_ | refine OpsE.off rfl rfl rfl ?_
      first | (refine OpsE.yes rfl rfl ?_; refine OpsE.ex (Ex.call rfl Tryd.call7 (num_spec 13 w _ hE.right H)) rfl ?_; (try clear H); rintro _ w ⟨rfl, H⟩) | refine OpsE.no rfl rfl rfl ?_ | refine OpsE.off rfl rfl rfl ?_
      first | (refine OpsE.yes rfl rfl ?_; refine OpsE.ev (Ev.neq rfl rfl) rfl ?_) | refine OpsE.no rfl rfl rfl ?_ | refine OpsE.off rfl rfl rfl ?_
      first | (refine OpsE.yes rfl rfl ?_; refine OpsE.ev ((by first | exact Ev.pickT rfl rfl | exact Ev.pickF rfl rfl)) rfl ?_) | refine OpsE.no rfl rfl rfl ?_ | refine OpsE.off rfl rfl rfl ?_
      refine OpsE.ev ((by first | exact Ev.pickT rfl rfl | exact Ev.pickF rfl rfl)) rfl ?_
      refine OpsE.ev (Ev.move rfl) rfl ?_
      first | (refine OpsE.yes rfl rfl ?_; refine OpsE.ev (Ev.move rfl) rfl ?_) | refine OpsE.no rfl rfl rfl ?_ | refine OpsE.off rfl rfl rfl ?_
      first | (refine OpsE.yes rfl rfl ?_; refine OpsE.ex (Ex.call rfl Tryd.call13 (down_spec s b A w _ hA H)) rfl ?_; (try clear H); rw [hd]; rintro _ w ⟨rfl, H⟩) | refine OpsE.no rfl rfl rfl ?_ | refine OpsE.off rfl rfl rfl ?_
      first | (refine OpsE.yes rfl rfl ?_; refine OpsE.ev (Ev.move rfl) rfl ?_) | refine OpsE.no rfl rfl rfl ?_ | refine OpsE.off rfl rfl rfl ?_
      first | (refine OpsE.yes rfl rfl ?_; refine OpsE.ev (Ev.move rfl) rfl ?_) | refine OpsE.no rfl rfl rfl ?_ | refine OpsE.off rfl rfl rfl ?_
      first | (refine OpsE.yes rfl rfl ?_; refine OpsE.ev (Ev.geq (r := true) rfl rfl (decide_eq_true (by omega))) rfl ?_) | refine OpsE.no rfl rfl rfl ?_ | refine OpsE.off rfl rfl rfl ?_
      first | (refine OpsE.yes rfl rfl ?_; refine OpsE.ev (Ev.boolNe (r := false) rfl rfl Tryd.underlying4) rfl ?_) | refine OpsE.no rfl rfl rfl ?_ | refine OpsE.off rfl rfl rfl ?_
      refine OpsE.ev ((by first | exact Ev.pickT rfl rfl | exact Ev.pickF rfl rfl)) rfl ?_
      refine OpsE.nil ?_
      repeat (first | refine RunsE.seq ?_ | refine RunsE.skip ?_ | refine RunsE.block ?_ | refine RunsE.inBlock ?_ | refine RunsE.yes rfl ?_ | refine RunsE.no rfl ?_ | refine RunsE.exit rfl ?_)
      refine RunsE.region ?_
      refine OpsE.ev (Ev.move rfl) rfl ?_
      refine OpsE.ex (Ex.call rfl Tryd.call13 (down_spec s b A w _ hA H)) rfl ?_; (try clear H); rw [hd]; rintro _ w ⟨rfl, H⟩
      refine OpsE.nil ?_
      have hrd : s.read 0 = ([], 13) := read_down (by simp only [St.has, Bool.and_eq_true, decide_eq_true_eq]; have := hs.next.pages; omega) hd
      have hq := hs.next.queue
      repeat (first | refine RunsE.seq ?_ | refine RunsE.skip ?_ | refine RunsE.block ?_ | refine RunsE.inBlock ?_ | refine RunsE.yes rfl ?_ | refine RunsE.no rfl ?_ | refine RunsE.exit rfl ?_)
      refine RunsE.region ?_
      refine OpsE.ev (Ev.move rfl) rfl ?_
      refine OpsE.ex (Ex.call rfl Tryd.call5 (read_spec s 0 b A (by omega) w _ hA H)) rfl ?_; (try clear H); rw [hrd]; rintro _ w ⟨v, B, rfl, _, H⟩; replace H := H.dropL
      refine OpsE.ev (Ev.move rfl) rfl ?_
      refine OpsE.ev (Ev.extract rfl rfl) rfl ?_
      refine OpsE.ev (Ev.extract rfl rfl) rfl ?_
      refine OpsE.ev (Ev.assign rfl) rfl ?_
      refine OpsE.ev (Ev.assign rfl) rfl ?_
      refine OpsE.nil ?_
      rw [hEV]
      repeat (first | refine RunsE.seq ?_ | refine RunsE.skip ?_ | refine RunsE.block ?_ | refine RunsE.inBlock ?_ | refine RunsE.yes rfl ?_ | refine RunsE.no rfl ?_ | refine RunsE.exit rfl ?_)
      refine RunsE.region ?_
      refine OpsE.ev (Ev.move rfl) rfl ?_
      refine OpsE.ex (Ex.call rfl Tryd.call7 (num_spec 13 w _ hE.right H)) rfl ?_; (try clear H); rintro _ w ⟨rfl, H⟩
      refine OpsE.ev (Ev.neq rfl rfl) rfl ?_
      refine OpsE.nil ?_
      repeat (first | refine RunsE.seq ?_ | refine RunsE.skip ?_ | refine RunsE.block ?_ | refine RunsE.inBlock ?_ | refine RunsE.yes rfl ?_ | refine RunsE.no rfl ?_ | refine RunsE.exit rfl ?_)
      refine RunsE.region ?_
      refine OpsE.ev (Ev.move rfl) rfl ?_
      refine OpsE.ev (Ev.add rfl rfl) rfl ?_
      refine OpsE.ev (Ev.assign rfl) rfl ?_
      refine OpsE.nil ?_
      exact nextL (i + 1) _ _ (by omega) ⟨by omega, s, A, hs.next, hA, H⟩ ⟨rfl, rfl, rfl, rfl, trivial⟩
  clear H hA A
  rintro _ w ⟨s, A, hp, hq, hA, H⟩
  obtain ⟨s1, hs1⟩ : ∃ s1, s1 = s.start fun i : Nat => ([] : List Int).contains (i : Int) := ⟨_, rfl⟩
  have hq1 : s1.Q.length = 0 := by rw [hs1]; rfl
  have hrd : s1.read 0 = (s1.page 0, 0) := read_up (by rw [hs1]; simp only [St.has, St.start, St.settle, setl_len, Bool.and_eq_true, decide_eq_true_eq]; omega) (by rw [hs1]; rfl)
  repeat (first | refine RunsE.seq ?_ | refine RunsE.skip ?_ | refine RunsE.block ?_ | refine RunsE.inBlock ?_ | refine RunsE.yes rfl ?_ | refine RunsE.no rfl ?_ | refine RunsE.exit rfl ?_)
  refine RunsE.region ?_
  refine OpsE.ev (Ev.move rfl) rfl ?_
  refine OpsE.ex (Ex.call rfl Tryd.call6 (start_spec s [] _ b A (by omega) (by decide) w _ hA .nil H)) rfl ?_; (try clear H); rw [← hs1]; rintro _ w ⟨A, rfl, hA, H⟩
  refine OpsE.nil ?_
  repeat (first | refine RunsE.seq ?_ | refine RunsE.skip ?_ | refine RunsE.block ?_ | refine RunsE.inBlock ?_ | refine RunsE.yes rfl ?_ | refine RunsE.no rfl ?_ | refine RunsE.exit rfl ?_)
  refine RunsE.region ?_
  refine OpsE.ev (Ev.move rfl) rfl ?_
  refine OpsE.ex (Ex.call rfl Tryd.call5 (read_spec s1 0 b A (by omega) w _ hA H)) rfl ?_; (try clear H); rw [hrd]; rintro _ w ⟨v, B, rfl, _, H⟩; replace H := H.dropL
  refine OpsE.ev (Ev.move rfl) rfl ?_
  refine OpsE.ev (Ev.extract rfl rfl) rfl ?_
  refine OpsE.ev (Ev.extract rfl rfl) rfl ?_
  refine OpsE.ev (Ev.assign rfl) rfl ?_
  refine OpsE.ev (Ev.assign rfl) rfl ?_
  refine OpsE.nil ?_
  repeat (first | refine RunsE.seq ?_ | refine RunsE.skip ?_ | refine RunsE.block ?_ | refine RunsE.inBlock ?_ | refine RunsE.yes rfl ?_ | refine RunsE.no rfl ?_ | refine RunsE.exit rfl ?_)
  refine RunsE.region ?_
  refine OpsE.ev (Ev.move rfl) rfl ?_
  refine OpsE.ev (Ev.ifNilEqT rfl Tryd.underlying26) rfl ?_
  refine OpsE.ev (Ev.move rfl) rfl ?_
  first | (refine OpsE.yes rfl rfl ?_; refine OpsE.ev (Ev.move rfl) rfl ?_) | refine OpsE.no rfl rfl rfl ?_ | refine OpsE.off rfl rfl rfl ?_
  first | (refine OpsE.yes rfl rfl ?_; refine OpsE.ex (Ex.call rfl Tryd.call12 (loose_spec s1 b A w _ hA H)) rfl ?_; (try clear H); rw [hq1]; rintro _ w ⟨rfl, H⟩) | refine OpsE.no rfl rfl rfl ?_ | refine OpsE.off rfl rfl rfl ?_
  first | (refine OpsE.yes rfl rfl ?_; refine OpsE.ev (Ev.eql (r := true) rfl rfl rfl) rfl ?_) | refine OpsE.no rfl rfl rfl ?_ | refine OpsE.off rfl rfl rfl ?_
  refine OpsE.ev ((by first | exact Ev.pickT rfl rfl | exact Ev.pickF rfl rfl)) rfl ?_
  refine OpsE.ev (Ev.move rfl) rfl ?_
  first | (refine OpsE.yes rfl rfl ?_; refine OpsE.ex (Ex.call rfl Tryd.call16 (sure_spec w _ H)) rfl ?_; (try clear H); rintro _ w ⟨rfl, H⟩) | refine OpsE.no rfl rfl rfl ?_ | refine OpsE.off rfl rfl rfl ?_
  refine OpsE.ev ((by first | exact Ev.pickT rfl rfl | exact Ev.pickF rfl rfl)) rfl ?_
  refine OpsE.ev (Ev.assign rfl) rfl ?_
  refine OpsE.nil ?_
  repeat (first | refine RunsE.seq ?_ | refine RunsE.skip ?_ | refine RunsE.block ?_ | refine RunsE.inBlock ?_ | refine RunsE.yes rfl ?_ | refine RunsE.no rfl ?_ | refine RunsE.exit rfl ?_)
  exact RunsE.ret1 Tryd.func4 rfl rfl ⟨rfl, H.dropL⟩

end Go.Proofs.YtoiehgiokfnmkaaDoor
