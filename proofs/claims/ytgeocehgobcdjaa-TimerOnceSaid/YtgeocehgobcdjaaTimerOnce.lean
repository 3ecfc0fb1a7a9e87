/-
  The statement 'TimerOnce': its function, walked.
-/
import Derived.Test.YtgeocehgobcdjaaTimerS
import Derived.Test.YtgeocehgobcdjaaVInts
namespace Go.Proofs.Ytgeocehgobcdjaa.V

/-- The events that were laid in, by their dues. -/
def evsOf (ws : List Nat) : List TEv := (List.range ws.length).map fun k => ⟨k + 1, ws.getD k 0, []⟩

theorem evsOf_push (ws : List Nat) (d : Nat) : evsOf (ws ++ [d]) = evsOf ws ++ [⟨ws.length + 1, d, []⟩] := by
  unfold evsOf
  rw [List.length_append, List.length_singleton, List.range_succ, List.map_append]
  congr 1
  · refine List.map_congr_left fun k hk => ?_
    have hlt := List.mem_range.1 hk
    simp [List.getD_eq_getElem?_getD, List.getElem?_append_left hlt]
  · simp [List.getD_eq_getElem?_getD]

/-- What is wanted of the events that are left. -/
structure Wanted (wl : List Int) (S : List TEv) (n : Nat) : Prop where
  len : wl.length = n
  el : ∀ e ∈ S, 1 ≤ e.id ∧ e.id ≤ n ∧ wl[e.id - 1]? = some (e.due : Int)
  ids : S.Pairwise fun a b => a.id ≠ b.id
  due : ∀ e ∈ S, e.due < 1000

theorem Wanted.perm {wl : List Int} {S S' : List TEv} {n : Nat} (h : Wanted wl S n) (hp : S'.Perm S) : Wanted wl S' n :=
  ⟨h.len, fun e he => h.el e (hp.subset he), (hp.pairwise_iff (fun h => fun he => h he.symm)).2 h.ids, fun e he => h.due e (hp.subset he)⟩

theorem Wanted.take {wl : List Int} {e : TEv} {S : List TEv} {n : Nat} (h : Wanted wl (e :: S) n) : Wanted (wl.set (e.id - 1) (-1)) S n := by
  have hc := List.pairwise_cons.1 h.ids
  refine ⟨by rw [List.length_set]; exact h.len, fun a ha => ?_, hc.2, fun a ha => h.due a (List.mem_cons_of_mem _ ha)⟩
  obtain ⟨h1, h2, h3⟩ := h.el a (List.mem_cons_of_mem _ ha)
  have h4 := (h.el e (List.mem_cons_self ..)).1
  refine ⟨h1, h2, ?_⟩
  rw [List.getElem?_set_ne (by have := hc.1 a ha; omega)]
  exact h3

theorem evsOf_wanted (ws : List Nat) (hd : ∀ d ∈ ws, d < 1000) : Wanted (ws.map fun d : Nat => (d : Int)) (evsOf ws) ws.length := by
  refine ⟨by simp, fun e he => ?_, ?_, fun e he => ?_⟩
  · obtain ⟨k, hk, rfl⟩ := List.mem_map.1 he
    have hlt := List.mem_range.1 hk
    refine ⟨by simp only; omega, by simp only; omega, ?_⟩
    simp only [Nat.add_sub_cancel]
    exact map_getD hlt
  · unfold evsOf
    rw [List.pairwise_map]
    refine List.Pairwise.imp ?_ (List.nodup_range (n := ws.length))
    intro a b hab
    simp only
    omega
  · obtain ⟨k, hk, rfl⟩ := List.mem_map.1 he
    have hlt := List.mem_range.1 hk
    refine hd _ ?_
    rw [List.getD_eq_getElem?_getD, List.getElem?_eq_getElem hlt]
    exact List.getElem_mem hlt

end Go.Proofs.Ytgeocehgobcdjaa.V
namespace Go.Proofs.Ytgeocehgobcdjaa
open Go.Proofs.Ytgeocehgobcdjaa.V

/-- What stands behind each round of time. -/
structure Round2 [Strm] (F : List (Nat × Obj)) (b n : Nat) (vw : Value) (i now seen : Nat) (w : World) : Prop where
  of :: ex : ∃ ys A wl Bw, QH b ys n A ∧ Slc gI 1 3 vw wl Bw ∧ Wanted wl ys n ∧ seen + ys.length = n ∧ (0 < i → ∀ e ∈ ys, now < e.due) ∧ SL w (A ++ (Bw ++ F))

set_option maxHeartbeats 4000000 in
theorem oncelaw_spec [Strm] (ds ts : List Int) (vd vt : Value) (w : World) (F : List (Nat × Obj)) (hvd : IntsIn .i64 F vd ds) (hvt : IntsIn .i64 F vt ts) (H : SL w F) :
    Does Try.prog 3 #[vd, vt] w fun r w' => r = .bool true ∧ SL w' F := by
  obtain ⟨ad, cd, rfl, hcd⟩ := hvd.len
  obtain ⟨at_, ct, rfl, hct⟩ := hvt.len
  refine Does.intro (args := [_, _]) (e := [(0, _), (1, _)]) Try.func3 rfl Try.ntmps3 rfl rfl ?_
  repeat (first | refine RunsE.seq ?_ | refine RunsE.skip ?_ | refine RunsE.block ?_ | refine RunsE.inBlock ?_ | refine RunsE.yes rfl ?_ | refine RunsE.no rfl ?_ | refine RunsE.exit rfl ?_)
  repeat (first | refine RunsE.seq ?_ | refine RunsE.skip ?_ | refine RunsE.block ?_ | refine RunsE.inBlock ?_ | refine RunsE.yes rfl ?_ | refine RunsE.no rfl ?_ | refine RunsE.exit rfl ?_)
  refine RunsE.region ?_
  refine OpsE.ev (Ev.assign rfl) rfl ?_
  refine OpsE.nil ?_
  repeat (first | refine RunsE.seq ?_ | refine RunsE.skip ?_ | refine RunsE.block ?_ | refine RunsE.inBlock ?_ | refine RunsE.yes rfl ?_ | refine RunsE.no rfl ?_ | refine RunsE.exit rfl ?_)
  refine RunsE.region ?_
  refine OpsE.ex (Ex.call rfl Try.call4 (tnew_spec w _ H)) rfl ?_; (try clear H); rintro _ w ⟨b, A, rfl, hA, H⟩
  refine OpsE.ev (Ev.assign rfl) rfl ?_
  refine OpsE.nil ?_
  repeat (first | refine RunsE.seq ?_ | refine RunsE.skip ?_ | refine RunsE.block ?_ | refine RunsE.inBlock ?_ | refine RunsE.yes rfl ?_ | refine RunsE.no rfl ?_ | refine RunsE.exit rfl ?_)
  refine RunsE.region ?_
  refine OpsE.ev (Ev.move rfl) rfl ?_
  refine OpsE.ev (Ev.ptrNilEq (el := 39) rfl rfl (by kernel_rfl)) rfl ?_
  refine OpsE.nil ?_
  repeat (first | refine RunsE.seq ?_ | refine RunsE.skip ?_ | refine RunsE.block ?_ | refine RunsE.inBlock ?_ | refine RunsE.yes rfl ?_ | refine RunsE.no rfl ?_ | refine RunsE.exit rfl ?_)
  refine RunsE.region ?_
  refine OpsE.ev (Ev.assign rfl) rfl ?_
  refine OpsE.nil ?_
  repeat (first | refine RunsE.seq ?_ | refine RunsE.skip ?_ | refine RunsE.block ?_ | refine RunsE.inBlock ?_ | refine RunsE.yes rfl ?_ | refine RunsE.no rfl ?_ | refine RunsE.exit rfl ?_)
  refine RunsE.region ?_
  refine OpsE.ev (Ev.assign rfl) rfl ?_
  refine OpsE.nil ?_
  repeat refine RunsE.seq ?_
  refine RunsE.join (fun v : Value => [(1, .slice at_ ts.length ct), (5, .pointer (some ⟨b, 0, none⟩)), (6, v)])
    (fun v w => ∃ ws xs A Bw, ws.length ≤ 60 ∧ (∀ d ∈ ws, d < 1000) ∧ xs.Perm (evsOf ws) ∧ QH b xs ws.length A ∧ Slc gI 1 3 v (ws.map fun d : Nat => (d : Int)) Bw ∧ SL w (A ++ (Bw ++ F))) (fun next => ?_) ?_
  · refine RunsE.block ?_
    refine RunsE.loop (fun s : Nat × Value => [(0, .slice ad ds.length cd), (1, .slice at_ ts.length ct), (5, .pointer (some ⟨b, 0, none⟩)), (6, s.2), (7, .int .i64 (s.1 : Int))])
      (fun s w => s.1 ≤ 60 ∧ ∃ ws xs A Bw, ws.length = s.1 ∧ (∀ d ∈ ws, d < 1000) ∧ xs.Perm (evsOf ws) ∧ QH b xs ws.length A ∧ Slc gI 1 3 s.2 (ws.map fun d : Nat => (d : Int)) Bw ∧ SL w (A ++ (Bw ++ F)))
      (fun s => 60 - s.1) (0, .slice none 0 0) ⟨rfl, rfl, rfl, rfl, rfl, trivial⟩ ⟨by simp only; omega, [], [], A, [], rfl, fun d h => by simp at h, .refl _, hA, .nil, H⟩ ?_
    clear H hA A
    rintro ⟨i, vw⟩ w ⟨hi, ws, xs, A, Bw, hwl, hwd, hxp, hA, hw, H⟩ nextL
    simp only at hi hwl hw
    by_cases h1 : ds.length ≤ i
    ·
      repeat (first | refine RunsE.seq ?_ | refine RunsE.skip ?_ | refine RunsE.block ?_ | refine RunsE.inBlock ?_ | refine RunsE.yes rfl ?_ | refine RunsE.no rfl ?_ | refine RunsE.exit rfl ?_)
      refine RunsE.region ?_
      refine OpsE.ev (Ev.move rfl) rfl ?_
      refine OpsE.ev (Ev.move rfl) rfl ?_
      refine OpsE.ev (Ev.lenSl (d := 3) rfl rfl (by kernel_rfl)) rfl ?_
      refine OpsE.ev (Ev.lss (r := false) rfl rfl (decide_eq_false (by (try simp only); omega))) rfl ?_
      refine OpsE.ev (Ev.move rfl) rfl ?_
      first | (refine OpsE.yes rfl rfl ?_; refine OpsE.ev (Ev.move rfl) rfl ?_) | refine OpsE.no rfl rfl rfl ?_ | refine OpsE.off rfl rfl rfl ?_
      first | (refine OpsE.yes rfl rfl ?_; refine OpsE.ev (Ev.lss rfl rfl) rfl ?_) | refine OpsE.no rfl rfl rfl ?_ | refine OpsE.off rfl rfl rfl ?_
      refine OpsE.ev ((by first | exact Ev.pickT rfl rfl | exact Ev.pickF rfl rfl)) rfl ?_
      refine OpsE.nil ?_
      repeat refine RunsE.seq ?_
      refine RunsE.no rfl ?_
      refine RunsE.exit rfl ?_
      exact next vw _ _ ⟨ws, xs, A, Bw, by omega, hwd, hxp, hA, hw, H⟩ ⟨rfl, rfl, rfl, trivial⟩
    by_cases h2 : i = 60
    ·
      repeat (first | refine RunsE.seq ?_ | refine RunsE.skip ?_ | refine RunsE.block ?_ | refine RunsE.inBlock ?_ | refine RunsE.yes rfl ?_ | refine RunsE.no rfl ?_ | refine RunsE.exit rfl ?_)
      refine RunsE.region ?_
      refine OpsE.ev (Ev.move rfl) rfl ?_
      refine OpsE.ev (Ev.move rfl) rfl ?_
      refine OpsE.ev (Ev.lenSl (d := 3) rfl rfl (by kernel_rfl)) rfl ?_
      refine OpsE.ev (Ev.lss (r := true) rfl rfl (decide_eq_true (by (try simp only); omega))) rfl ?_
      refine OpsE.ev (Ev.move rfl) rfl ?_
      first | (refine OpsE.yes rfl rfl ?_; refine OpsE.ev (Ev.move rfl) rfl ?_) | refine OpsE.no rfl rfl rfl ?_ | refine OpsE.off rfl rfl rfl ?_
      first | (refine OpsE.yes rfl rfl ?_; refine OpsE.ev (Ev.lss (r := false) rfl rfl (decide_eq_false (by (try simp only); omega))) rfl ?_) | refine OpsE.no rfl rfl rfl ?_ | refine OpsE.off rfl rfl rfl ?_
      refine OpsE.ev ((by first | exact Ev.pickT rfl rfl | exact Ev.pickF rfl rfl)) rfl ?_
      refine OpsE.nil ?_
      repeat refine RunsE.seq ?_
      refine RunsE.no rfl ?_
      refine RunsE.exit rfl ?_
      exact next vw _ _ ⟨ws, xs, A, Bw, by omega, hwd, hxp, hA, hw, H⟩ ⟨rfl, rfl, rfl, trivial⟩
    clear next
    obtain ⟨z, hz⟩ : ∃ z, ds[i]? = some z := ⟨ds[i]'(by omega), by simp [show i < ds.length by omega]⟩
    obtain ⟨bd, od, _, rfl, hdr, rfl, _⟩ := hvd.at hz
    obtain ⟨m, hm, _⟩ := u64_nat z
    obtain ⟨d, hd⟩ : ∃ d, d = m % 1000 := ⟨_, rfl⟩
    have hd1 : d < 1000 := by omega
    have hxl := hxp.length_eq
    rw [show (evsOf ws).length = ws.length by simp [evsOf]] at hxl
    repeat (first | refine RunsE.seq ?_ | refine RunsE.skip ?_ | refine RunsE.block ?_ | refine RunsE.inBlock ?_ | refine RunsE.yes rfl ?_ | refine RunsE.no rfl ?_ | refine RunsE.exit rfl ?_)
    refine RunsE.region ?_
    refine OpsE.ev (Ev.move rfl) rfl ?_
    refine OpsE.ev (Ev.move rfl) rfl ?_
    refine OpsE.ev (Ev.lenSl (d := 3) rfl rfl (by kernel_rfl)) rfl ?_
    refine OpsE.ev (Ev.lss (r := true) rfl rfl (decide_eq_true (by (try simp only); omega))) rfl ?_
    refine OpsE.ev (Ev.move rfl) rfl ?_
    first | (refine OpsE.yes rfl rfl ?_; refine OpsE.ev (Ev.move rfl) rfl ?_) | refine OpsE.no rfl rfl rfl ?_ | refine OpsE.off rfl rfl rfl ?_
    first | (refine OpsE.yes rfl rfl ?_; refine OpsE.ev (Ev.lss (r := true) rfl rfl (decide_eq_true (by (try simp only); omega))) rfl ?_) | refine OpsE.no rfl rfl rfl ?_ | refine OpsE.off rfl rfl rfl ?_
    refine OpsE.ev ((by first | exact Ev.pickT rfl rfl | exact Ev.pickF rfl rfl)) rfl ?_
    refine OpsE.nil ?_
    repeat (first | refine RunsE.seq ?_ | refine RunsE.skip ?_ | refine RunsE.block ?_ | refine RunsE.inBlock ?_ | refine RunsE.yes rfl ?_ | refine RunsE.no rfl ?_ | refine RunsE.exit rfl ?_)
    repeat (first | refine RunsE.seq ?_ | refine RunsE.skip ?_ | refine RunsE.block ?_ | refine RunsE.inBlock ?_ | refine RunsE.yes rfl ?_ | refine RunsE.no rfl ?_ | refine RunsE.exit rfl ?_)
    refine RunsE.region ?_
    refine OpsE.ev (Ev.move rfl) rfl ?_
    refine OpsE.ev (Ev.move rfl) rfl ?_
    refine OpsE.ev (Ev.iaSl (n := 3) (sz := 1) (m := i) (o := od + i) rfl rfl rfl (by kernel_rfl) (by omega) (by omega)) rfl ?_
    refine OpsE.ev (Ev.load H rfl (by kernel_rfl) hdr.right.right) rfl ?_
    refine OpsE.ev (Ev.conv (k' := .u64) (c := (m : Int)) rfl (by kernel_rfl) (by kernel_rfl) hm) rfl ?_
    refine OpsE.ev (Ev.rem (c := (d : Int)) rfl rfl (by omega) (by rw [hd]; exact qrem m 1000)) rfl ?_
    refine OpsE.ev (Ev.conv (k' := .i64) (c := (d : Int)) rfl (by kernel_rfl) (by kernel_rfl) (qi64 (by omega) (by omega))) rfl ?_
    refine OpsE.ev (Ev.assign rfl) rfl ?_
    refine OpsE.nil ?_
    repeat (first | refine RunsE.seq ?_ | refine RunsE.skip ?_ | refine RunsE.block ?_ | refine RunsE.inBlock ?_ | refine RunsE.yes rfl ?_ | refine RunsE.no rfl ?_ | refine RunsE.exit rfl ?_)
    refine RunsE.region ?_
    refine OpsE.ev (Ev.move rfl) rfl ?_
    refine OpsE.ev (Ev.move rfl) rfl ?_
    refine OpsE.ex (Ex.call rfl Try.call5 (add_spec b xs ws.length d [] (by omega) (by decide) (by omega) (by omega) A w _ hA H)) rfl ?_; (try clear H); rintro _ w ⟨ys, A, rfl, hy, hA, H⟩
    refine OpsE.ev (Ev.move rfl) rfl ?_
    refine OpsE.ev (Ev.extract rfl rfl) rfl ?_
    refine OpsE.ev (Ev.extract rfl rfl) rfl ?_
    refine OpsE.ev (Ev.assign rfl) rfl ?_
    refine OpsE.ev (Ev.assign rfl) rfl ?_
    refine OpsE.nil ?_
    repeat (first | refine RunsE.seq ?_ | refine RunsE.skip ?_ | refine RunsE.block ?_ | refine RunsE.inBlock ?_ | refine RunsE.yes rfl ?_ | refine RunsE.no rfl ?_ | refine RunsE.exit rfl ?_)
    refine RunsE.region ?_
    refine OpsE.ev (Ev.move rfl) rfl ?_
    refine OpsE.ev (Ev.ifNilNeF rfl Try.underlying27) rfl ?_
    refine OpsE.ev (Ev.move rfl) rfl ?_
    first | (refine OpsE.yes rfl rfl ?_; refine OpsE.ev (Ev.move rfl) rfl ?_) | refine OpsE.no rfl rfl rfl ?_ | refine OpsE.off rfl rfl rfl ?_
    first | (refine OpsE.yes rfl rfl ?_; refine OpsE.ev (Ev.move rfl) rfl ?_) | refine OpsE.no rfl rfl rfl ?_ | refine OpsE.off rfl rfl rfl ?_
    first | (refine OpsE.yes rfl rfl ?_; refine OpsE.ev (Ev.add (c := ((ws.length + 1 : Nat) : Int)) rfl rfl (by (try simp only); rw [qi64 (by omega) (by omega)]; omega)) rfl ?_) | refine OpsE.no rfl rfl rfl ?_ | refine OpsE.off rfl rfl rfl ?_
    first | (refine OpsE.yes rfl rfl ?_; refine OpsE.ev (Ev.neq (r := false) rfl rfl (by simp)) rfl ?_) | refine OpsE.no rfl rfl rfl ?_ | refine OpsE.off rfl rfl rfl ?_
    refine OpsE.ev ((by first | exact Ev.pickT rfl rfl | exact Ev.pickF rfl rfl)) rfl ?_
    refine OpsE.nil ?_
    replace H := H.swapL
    repeat (first | refine RunsE.seq ?_ | refine RunsE.skip ?_ | refine RunsE.block ?_ | refine RunsE.inBlock ?_ | refine RunsE.yes rfl ?_ | refine RunsE.no rfl ?_ | refine RunsE.exit rfl ?_)
    refine RunsE.region ?_
    refine OpsE.ev (Ev.move rfl) rfl ?_
    refine OpsE.ev (Ev.move rfl) rfl ?_
    refine OpsE.ex (Ex.buildSl (T := 3) (zv := .int .i64 0) H rfl (by kernel_rfl) (by kernel_rfl) (by simp [Value.oneCell']) rfl (by omega) (by omega)) rfl ?_; (try clear H); rintro _ w ⟨b54, rfl, H⟩
    refine OpsE.ex (Ex.append (T := 3) (g := gI) (by_ := 8) (zv := .int .i64 0) (xs := ws.map fun d : Nat => (d : Int)) (ys := [(d : Int)]) H.drop rfl rfl hw (Src.row0 H m0 rfl) (fun _ => rfl) (by simp [Value.oneCell']) (by kernel_rfl) (by kernel_rfl) (by kernel_rfl) (by kernel_rfl) rfl (by simp only [List.length_singleton, List.length_map]; omega) (by simp only [List.length_singleton, List.length_map]; omega)) rfl ?_; (try clear H); rintro vw' w ⟨Bw, hw, H⟩
    refine OpsE.ev (Ev.assign rfl) rfl ?_
    refine OpsE.nil ?_
    replace H := H.swapL
    repeat (first | refine RunsE.seq ?_ | refine RunsE.skip ?_ | refine RunsE.block ?_ | refine RunsE.inBlock ?_ | refine RunsE.yes rfl ?_ | refine RunsE.no rfl ?_ | refine RunsE.exit rfl ?_)
    refine RunsE.region ?_
    refine OpsE.ev (Ev.move rfl) rfl ?_
    refine OpsE.ev (Ev.add rfl rfl) rfl ?_
    refine OpsE.ev (Ev.assign rfl) rfl ?_
    refine OpsE.nil ?_
    refine nextL (i + 1, vw') _ _ (by (try simp only); omega) ⟨by simp only; omega, ws ++ [d], ys, A, Bw, by simp only [List.length_append, List.length_singleton]; omega, fun a ha => ?_, ?_, ?_, ?_, H⟩ ⟨rfl, rfl, rfl, rfl, rfl, trivial⟩
    · rcases List.mem_append.1 ha with ha | ha
      · exact hwd a ha
      · obtain rfl := List.mem_singleton.1 ha; exact hd1
    · rw [evsOf_push]
      exact hy.trans (hxp.append_right _)
    · rw [List.length_append, List.length_singleton]
      exact hA
    · rw [List.map_append]
      exact hw
  clear H hA A
  rintro vw w ⟨ws, xs, A, Bw, hwl, hwd, hxp, hA, hw, H⟩
  obtain ⟨n, hn⟩ : ∃ n, n = ws.length := ⟨_, rfl⟩
  have hxl := hxp.length_eq
  rw [show (evsOf ws).length = ws.length by simp [evsOf]] at hxl
  rw [← hn] at hA hwl hxl
  have hR : Round2 F b n vw 0 0 0 w := .of ⟨xs, A, _, Bw, hA, hw, by rw [hn]; exact (evsOf_wanted ws hwd).perm hxp, by omega, fun h => by omega, H⟩
  have hwn : ∃ a c, vw = .slice a n c ∧ n ≤ c := by
    obtain ⟨a, c, h1, h2⟩ := hw.leCap
    rw [List.length_map, ← hn] at h1 h2
    exact ⟨a, c, h1, h2⟩
  obtain ⟨aw, cw, rfl, hcw⟩ := hwn
  clear H hA hw hxp A Bw
  repeat (first | refine RunsE.seq ?_ | refine RunsE.skip ?_ | refine RunsE.block ?_ | refine RunsE.inBlock ?_ | refine RunsE.yes rfl ?_ | refine RunsE.no rfl ?_ | refine RunsE.exit rfl ?_)
  refine RunsE.region ?_
  refine OpsE.ev (Ev.assign rfl) rfl ?_
  refine OpsE.ev (Ev.assign rfl) rfl ?_
  refine OpsE.nil ?_
  repeat (first | refine RunsE.seq ?_ | refine RunsE.skip ?_ | refine RunsE.block ?_ | refine RunsE.inBlock ?_ | refine RunsE.yes rfl ?_ | refine RunsE.no rfl ?_ | refine RunsE.exit rfl ?_)
  refine RunsE.region ?_
  refine OpsE.ev (Ev.assign rfl) rfl ?_
  refine OpsE.nil ?_
  repeat refine RunsE.seq ?_
  refine RunsE.join (fun seen : Nat => [(5, .pointer (some ⟨b, 0, none⟩)), (6, .slice aw n cw), (12, .int .i64 (seen : Int))])
    (fun seen w => ∃ i now, Round2 F b n (.slice aw n cw) i now seen w) (fun next => ?_) ?_
  · refine RunsE.block ?_
    refine RunsE.loop (fun s : Nat × Nat × Nat => [(1, .slice at_ ts.length ct), (5, .pointer (some ⟨b, 0, none⟩)), (6, .slice aw n cw), (11, .int .i64 (s.2.1 : Int)), (12, .int .i64 (s.2.2 : Int)), (13, .int .i64 (s.1 : Int))])
      (fun s w => s.1 ≤ 41 ∧ s.2.1 < 1000 ∧ Round2 F b n (.slice aw n cw) s.1 s.2.1 s.2.2 w) (fun s => 41 - s.1) (0, 0, 0) ⟨rfl, rfl, rfl, rfl, rfl, rfl, trivial⟩ ⟨by simp only; omega, by simp only; omega, hR⟩ ?_
    clear hR
    rintro ⟨i, now, seen⟩ w ⟨hi, hnow, hR⟩ nextL
    simp only at hi hnow hR
    by_cases h1 : ts.length < i
    ·
      repeat (first | refine RunsE.seq ?_ | refine RunsE.skip ?_ | refine RunsE.block ?_ | refine RunsE.inBlock ?_ | refine RunsE.yes rfl ?_ | refine RunsE.no rfl ?_ | refine RunsE.exit rfl ?_)
      refine RunsE.region ?_
      refine OpsE.ev (Ev.move rfl) rfl ?_
      refine OpsE.ev (Ev.move rfl) rfl ?_
      refine OpsE.ev (Ev.lenSl (d := 3) rfl rfl (by kernel_rfl)) rfl ?_
      refine OpsE.ev (Ev.leq (r := false) rfl rfl (decide_eq_false (by (try simp only); omega))) rfl ?_
      refine OpsE.ev (Ev.move rfl) rfl ?_
      first | (refine OpsE.yes rfl rfl ?_; refine OpsE.ev (Ev.move rfl) rfl ?_) | refine OpsE.no rfl rfl rfl ?_ | refine OpsE.off rfl rfl rfl ?_
      first | (refine OpsE.yes rfl rfl ?_; refine OpsE.ev (Ev.leq rfl rfl) rfl ?_) | refine OpsE.no rfl rfl rfl ?_ | refine OpsE.off rfl rfl rfl ?_
      refine OpsE.ev ((by first | exact Ev.pickT rfl rfl | exact Ev.pickF rfl rfl)) rfl ?_
      refine OpsE.nil ?_
      repeat refine RunsE.seq ?_
      refine RunsE.no rfl ?_
      refine RunsE.exit rfl ?_
      exact next seen _ _ ⟨i, now, hR⟩ ⟨rfl, rfl, rfl, trivial⟩
    by_cases h2 : i = 41
    ·
      repeat (first | refine RunsE.seq ?_ | refine RunsE.skip ?_ | refine RunsE.block ?_ | refine RunsE.inBlock ?_ | refine RunsE.yes rfl ?_ | refine RunsE.no rfl ?_ | refine RunsE.exit rfl ?_)
      refine RunsE.region ?_
      refine OpsE.ev (Ev.move rfl) rfl ?_
      refine OpsE.ev (Ev.move rfl) rfl ?_
      refine OpsE.ev (Ev.lenSl (d := 3) rfl rfl (by kernel_rfl)) rfl ?_
      refine OpsE.ev (Ev.leq (r := true) rfl rfl (decide_eq_true (by (try simp only); omega))) rfl ?_
      refine OpsE.ev (Ev.move rfl) rfl ?_
      first | (refine OpsE.yes rfl rfl ?_; refine OpsE.ev (Ev.move rfl) rfl ?_) | refine OpsE.no rfl rfl rfl ?_ | refine OpsE.off rfl rfl rfl ?_
      first | (refine OpsE.yes rfl rfl ?_; refine OpsE.ev (Ev.leq (r := false) rfl rfl (decide_eq_false (by (try simp only); omega))) rfl ?_) | refine OpsE.no rfl rfl rfl ?_ | refine OpsE.off rfl rfl rfl ?_
      refine OpsE.ev ((by first | exact Ev.pickT rfl rfl | exact Ev.pickF rfl rfl)) rfl ?_
      refine OpsE.nil ?_
      repeat refine RunsE.seq ?_
      refine RunsE.no rfl ?_
      refine RunsE.exit rfl ?_
      exact next seen _ _ ⟨i, now, hR⟩ ⟨rfl, rfl, rfl, trivial⟩
    obtain ⟨xs, A, wl, Bw, hA, hw, hW, hseen, hfrom, H⟩ := hR.ex
    clear hR
    repeat (first | refine RunsE.seq ?_ | refine RunsE.skip ?_ | refine RunsE.block ?_ | refine RunsE.inBlock ?_ | refine RunsE.yes rfl ?_ | refine RunsE.no rfl ?_ | refine RunsE.exit rfl ?_)
    refine RunsE.region ?_
    refine OpsE.ev (Ev.move rfl) rfl ?_
    refine OpsE.ev (Ev.move rfl) rfl ?_
    refine OpsE.ev (Ev.lenSl (d := 3) rfl rfl (by kernel_rfl)) rfl ?_
    refine OpsE.ev (Ev.leq (r := true) rfl rfl (decide_eq_true (by (try simp only); omega))) rfl ?_
    refine OpsE.ev (Ev.move rfl) rfl ?_
    first | (refine OpsE.yes rfl rfl ?_; refine OpsE.ev (Ev.move rfl) rfl ?_) | refine OpsE.no rfl rfl rfl ?_ | refine OpsE.off rfl rfl rfl ?_
    first | (refine OpsE.yes rfl rfl ?_; refine OpsE.ev (Ev.leq (r := true) rfl rfl (decide_eq_true (by (try simp only); omega))) rfl ?_) | refine OpsE.no rfl rfl rfl ?_ | refine OpsE.off rfl rfl rfl ?_
    refine OpsE.ev ((by first | exact Ev.pickT rfl rfl | exact Ev.pickF rfl rfl)) rfl ?_
    refine OpsE.nil ?_
    repeat (first | refine RunsE.seq ?_ | refine RunsE.skip ?_ | refine RunsE.block ?_ | refine RunsE.inBlock ?_ | refine RunsE.yes rfl ?_ | refine RunsE.no rfl ?_ | refine RunsE.exit rfl ?_)
    repeat (first | refine RunsE.seq ?_ | refine RunsE.skip ?_ | refine RunsE.block ?_ | refine RunsE.inBlock ?_ | refine RunsE.yes rfl ?_ | refine RunsE.no rfl ?_ | refine RunsE.exit rfl ?_)
    refine RunsE.region ?_
    refine OpsE.ev (Ev.move rfl) rfl ?_
    refine OpsE.ev (Ev.assign rfl) rfl ?_
    refine OpsE.nil ?_
    refine RunsE.seq ?_
    refine (RunsE.join (fun now' : Nat => [(1, .slice at_ ts.length ct), (5, .pointer (some ⟨b, 0, none⟩)), (6, .slice aw n cw), (11, .int .i64 (now' : Int)), (12, .int .i64 (seen : Int)), (13, .int .i64 (i : Int)), (14, .int .i64 (now : Int))])
      (fun now' w => now ≤ now' ∧ now' ≤ 1199 ∧ SL w (A ++ (Bw ++ F))) (fun next2 => ?_) ?_)
    · by_cases h3 : ts.length ≤ i
      ·
        repeat (first | refine RunsE.seq ?_ | refine RunsE.skip ?_ | refine RunsE.block ?_ | refine RunsE.inBlock ?_ | refine RunsE.yes rfl ?_ | refine RunsE.no rfl ?_ | refine RunsE.exit rfl ?_)
        refine RunsE.region ?_
        refine OpsE.ev (Ev.move rfl) rfl ?_
        refine OpsE.ev (Ev.move rfl) rfl ?_
        refine OpsE.ev (Ev.lenSl (d := 3) rfl rfl (by kernel_rfl)) rfl ?_
        refine OpsE.ev (Ev.lss (r := false) rfl rfl (decide_eq_false (by (try simp only); omega))) rfl ?_
        refine OpsE.ev (Ev.move rfl) rfl ?_
        first | (refine OpsE.yes rfl rfl ?_; refine OpsE.ev (Ev.move rfl) rfl ?_) | refine OpsE.no rfl rfl rfl ?_ | refine OpsE.off rfl rfl rfl ?_
        first | (refine OpsE.yes rfl rfl ?_; refine OpsE.ev (Ev.lss rfl rfl) rfl ?_) | refine OpsE.no rfl rfl rfl ?_ | refine OpsE.off rfl rfl rfl ?_
        refine OpsE.ev ((by first | exact Ev.pickT rfl rfl | exact Ev.pickF rfl rfl)) rfl ?_
        refine OpsE.nil ?_
        repeat refine RunsE.seq ?_
        refine RunsE.no rfl ?_
        repeat (first | refine RunsE.seq ?_ | refine RunsE.skip ?_ | refine RunsE.block ?_ | refine RunsE.inBlock ?_ | refine RunsE.yes rfl ?_ | refine RunsE.no rfl ?_ | refine RunsE.exit rfl ?_)
        refine RunsE.region ?_
        refine OpsE.ev (Ev.assign rfl) rfl ?_
        refine OpsE.nil ?_
        exact next2 1000 _ _ ⟨by omega, by omega, H⟩ ⟨rfl, rfl, rfl, rfl, rfl, rfl, rfl, trivial⟩
      by_cases h4 : i = 40
      ·
        repeat (first | refine RunsE.seq ?_ | refine RunsE.skip ?_ | refine RunsE.block ?_ | refine RunsE.inBlock ?_ | refine RunsE.yes rfl ?_ | refine RunsE.no rfl ?_ | refine RunsE.exit rfl ?_)
        refine RunsE.region ?_
        refine OpsE.ev (Ev.move rfl) rfl ?_
        refine OpsE.ev (Ev.move rfl) rfl ?_
        refine OpsE.ev (Ev.lenSl (d := 3) rfl rfl (by kernel_rfl)) rfl ?_
        refine OpsE.ev (Ev.lss (r := true) rfl rfl (decide_eq_true (by (try simp only); omega))) rfl ?_
        refine OpsE.ev (Ev.move rfl) rfl ?_
        first | (refine OpsE.yes rfl rfl ?_; refine OpsE.ev (Ev.move rfl) rfl ?_) | refine OpsE.no rfl rfl rfl ?_ | refine OpsE.off rfl rfl rfl ?_
        first | (refine OpsE.yes rfl rfl ?_; refine OpsE.ev (Ev.lss (r := false) rfl rfl (decide_eq_false (by (try simp only); omega))) rfl ?_) | refine OpsE.no rfl rfl rfl ?_ | refine OpsE.off rfl rfl rfl ?_
        refine OpsE.ev ((by first | exact Ev.pickT rfl rfl | exact Ev.pickF rfl rfl)) rfl ?_
        refine OpsE.nil ?_
        repeat refine RunsE.seq ?_
        refine RunsE.no rfl ?_
        repeat (first | refine RunsE.seq ?_ | refine RunsE.skip ?_ | refine RunsE.block ?_ | refine RunsE.inBlock ?_ | refine RunsE.yes rfl ?_ | refine RunsE.no rfl ?_ | refine RunsE.exit rfl ?_)
        refine RunsE.region ?_
        refine OpsE.ev (Ev.assign rfl) rfl ?_
        refine OpsE.nil ?_
        exact next2 1000 _ _ ⟨by omega, by omega, H⟩ ⟨rfl, rfl, rfl, rfl, rfl, rfl, rfl, trivial⟩
      obtain ⟨z, hz⟩ : ∃ z, ts[i]? = some z := ⟨ts[i]'(by omega), by simp [show i < ts.length by omega]⟩
      obtain ⟨bt, ot, _, rfl, htr, rfl, _⟩ := hvt.at hz
      obtain ⟨m, hm, _⟩ := u64_nat z
      obtain ⟨d, hd⟩ : ∃ d, d = m % 200 := ⟨_, rfl⟩
      repeat (first | refine RunsE.seq ?_ | refine RunsE.skip ?_ | refine RunsE.block ?_ | refine RunsE.inBlock ?_ | refine RunsE.yes rfl ?_ | refine RunsE.no rfl ?_ | refine RunsE.exit rfl ?_)
      refine RunsE.region ?_
      refine OpsE.ev (Ev.move rfl) rfl ?_
      refine OpsE.ev (Ev.move rfl) rfl ?_
      refine OpsE.ev (Ev.lenSl (d := 3) rfl rfl (by kernel_rfl)) rfl ?_
      refine OpsE.ev (Ev.lss (r := true) rfl rfl (decide_eq_true (by (try simp only); omega))) rfl ?_
      refine OpsE.ev (Ev.move rfl) rfl ?_
      first | (refine OpsE.yes rfl rfl ?_; refine OpsE.ev (Ev.move rfl) rfl ?_) | refine OpsE.no rfl rfl rfl ?_ | refine OpsE.off rfl rfl rfl ?_
      first | (refine OpsE.yes rfl rfl ?_; refine OpsE.ev (Ev.lss (r := true) rfl rfl (decide_eq_true (by (try simp only); omega))) rfl ?_) | refine OpsE.no rfl rfl rfl ?_ | refine OpsE.off rfl rfl rfl ?_
      refine OpsE.ev ((by first | exact Ev.pickT rfl rfl | exact Ev.pickF rfl rfl)) rfl ?_
      refine OpsE.nil ?_
      repeat refine RunsE.seq ?_
      refine RunsE.yes rfl ?_
      repeat (first | refine RunsE.seq ?_ | refine RunsE.skip ?_ | refine RunsE.block ?_ | refine RunsE.inBlock ?_ | refine RunsE.yes rfl ?_ | refine RunsE.no rfl ?_ | refine RunsE.exit rfl ?_)
      refine RunsE.region ?_
      refine OpsE.ev (Ev.move rfl) rfl ?_
      refine OpsE.ev (Ev.move rfl) rfl ?_
      refine OpsE.ev (Ev.move rfl) rfl ?_
      refine OpsE.ev (Ev.iaSl (n := 3) (sz := 1) (m := i) (o := ot + i) rfl rfl rfl (by kernel_rfl) (by omega) (by omega)) rfl ?_
      refine OpsE.ev (Ev.load H rfl (by kernel_rfl) htr.right.right) rfl ?_
      refine OpsE.ev (Ev.conv (k' := .u64) (c := (m : Int)) rfl (by kernel_rfl) (by kernel_rfl) hm) rfl ?_
      refine OpsE.ev (Ev.rem (c := (d : Int)) rfl rfl (by omega) (by rw [hd]; exact qrem m 200)) rfl ?_
      refine OpsE.ev (Ev.conv (k' := .i64) (c := (d : Int)) rfl (by kernel_rfl) (by kernel_rfl) (qi64 (by omega) (by omega))) rfl ?_
      refine OpsE.ev (Ev.add (c := ((now + d : Nat) : Int)) rfl rfl (by (try simp only); rw [qi64 (by omega) (by omega)]; omega)) rfl ?_
      refine OpsE.ev (Ev.assign rfl) rfl ?_
      refine OpsE.nil ?_
      exact next2 (now + d) _ _ ⟨by omega, by omega, H⟩ ⟨rfl, rfl, rfl, rfl, rfl, rfl, rfl, trivial⟩
    clear H
    rintro now' w ⟨hn1, hn2, H⟩
    repeat (first | refine RunsE.seq ?_ | refine RunsE.skip ?_ | refine RunsE.block ?_ | refine RunsE.inBlock ?_ | refine RunsE.yes rfl ?_ | refine RunsE.no rfl ?_ | refine RunsE.exit rfl ?_)
    refine RunsE.region ?_
    refine OpsE.ev (Ev.move rfl) rfl ?_
    refine OpsE.ev (Ev.move rfl) rfl ?_
    refine OpsE.ex (Ex.call rfl Try.call6 (tpop_spec b xs n (now' : Int) (by omega) A w _ hA H)) rfl ?_; (try clear H); rintro vl w ⟨out, ys, Bo, A, hs, hp, hA, H⟩
    refine OpsE.ev (Ev.assign rfl) rfl ?_
    refine OpsE.nil ?_
    obtain ⟨ao, co, rfl, hco⟩ := hs.leCap
    have hpl := hp.perm.length_eq
    rw [List.length_append] at hpl
    have hW2 := hW.perm hp.perm
    have hfr : 0 < i → ∀ e ∈ out, now < e.due := fun h e he => hfrom h e (hp.perm.subset (List.mem_append_left _ he))
    replace H : SL w (Bw ++ (Bo ++ (A ++ F))) := H.perm (((perm_in Bw Bo _).trans (((perm_in Bw A F)).append_left Bo)))
    have hids0 := hW2.ids
    clear hW hfrom
    repeat (first | refine RunsE.seq ?_ | refine RunsE.skip ?_ | refine RunsE.block ?_ | refine RunsE.inBlock ?_ | refine RunsE.yes rfl ?_ | refine RunsE.no rfl ?_ | refine RunsE.exit rfl ?_)
    refine RunsE.region ?_
    refine OpsE.ev (Ev.assign rfl) rfl ?_
    refine OpsE.nil ?_
    repeat refine RunsE.seq ?_
    refine RunsE.join (fun seen' : Nat => [(1, .slice at_ ts.length ct), (5, .pointer (some ⟨b, 0, none⟩)), (6, .slice aw n cw), (11, .int .i64 (now' : Int)), (12, .int .i64 (seen' : Int)), (13, .int .i64 (i : Int))])
      (fun seen' w => seen' + ys.length = n ∧ ∃ wl Bw, Slc gI 1 3 (.slice aw n cw) wl Bw ∧ Wanted wl ys n ∧ SL w (Bw ++ (Bo ++ (A ++ F)))) (fun next2 => ?_) ?_
    · refine RunsE.block ?_
      refine RunsE.loop (fun s : Nat × Nat => [(1, .slice at_ ts.length ct), (5, .pointer (some ⟨b, 0, none⟩)), (6, .slice aw n cw), (11, .int .i64 (now' : Int)), (12, .int .i64 (s.2 : Int)), (13, .int .i64 (i : Int)), (14, .int .i64 (now : Int)), (15, .slice ao out.length co), (16, .int .i64 (s.1 : Int))])
        (fun s w => s.1 ≤ out.length ∧ s.2 + (out.length - s.1) + ys.length = n ∧ ∃ wl Bw, Slc gI 1 3 (.slice aw n cw) wl Bw ∧ Wanted wl (out.drop s.1 ++ ys) n ∧ SL w (Bw ++ (Bo ++ (A ++ F)))) (fun s => out.length - s.1) (0, seen)
        ⟨rfl, rfl, rfl, rfl, rfl, rfl, rfl, rfl, rfl, trivial⟩ ⟨by simp only; omega, by simp only; omega, wl, Bw, hw, hW2, H⟩ ?_
      clear H hw hW2 Bw wl
      rintro ⟨k, seen⟩ w ⟨hk, hseen, wl, Bw, hw, hW, H⟩ nextK
      simp only at hk hseen hW
      by_cases h3 : k = out.length
      ·
        repeat (first | refine RunsE.seq ?_ | refine RunsE.skip ?_ | refine RunsE.block ?_ | refine RunsE.inBlock ?_ | refine RunsE.yes rfl ?_ | refine RunsE.no rfl ?_ | refine RunsE.exit rfl ?_)
        refine RunsE.region ?_
        refine OpsE.ev (Ev.move rfl) rfl ?_
        refine OpsE.ev (Ev.move rfl) rfl ?_
        refine OpsE.ev (Ev.lenSl (d := 33) rfl rfl (by kernel_rfl)) rfl ?_
        refine OpsE.ev (Ev.lss (r := false) rfl rfl (decide_eq_false (by (try simp only); omega))) rfl ?_
        refine OpsE.nil ?_
        repeat refine RunsE.seq ?_
        refine RunsE.no rfl ?_
        refine RunsE.exit rfl ?_
        rw [h3, List.drop_length, List.nil_append] at hW
        exact next2 seen _ _ ⟨by omega, wl, Bw, hw, hW, H⟩ ⟨rfl, rfl, rfl, rfl, rfl, rfl, trivial⟩
      clear next2
      have hko : k < out.length := by omega
      have hdrop : out.drop k = at' out k :: out.drop (k + 1) := by
        rw [List.drop_eq_getElem_cons hko]
        congr 1
        simp [at', List.getD_eq_getElem?_getD, hko]
      rw [hdrop, List.cons_append] at hW
      obtain ⟨e, he⟩ : ∃ e, e = at' out k := ⟨_, rfl⟩
      have hmem : e ∈ out := by rw [he]; exact List.mem_of_getElem? (at_some hko)
      rw [← he] at hW
      obtain ⟨hid1, hid2, hwe⟩ := hW.el e (List.mem_cons_self ..)
      have hdn := hp.first e hmem
      have hwl := hW.len
      obtain ⟨bo, co', eo, hco'⟩ := hs.row (by omega)
      cases eo
      obtain ⟨bw, cw', ew, hcw'⟩ := hw.row (by omega)
      rw [hwl] at ew
      cases ew
      have hprev : 0 < k → (at' out (k - 1)).due < e.due ∨ ((at' out (k - 1)).due = e.due ∧ (at' out (k - 1)).id < e.id) := fun h0 => by
        have hle : (at' out (k - 1)).le e := by
          rw [he]
          have h5 := List.pairwise_iff_getElem.1 hp.sorted (k - 1) k (by omega) hko (by omega)
          simpa [at', List.getD_eq_getElem?_getD, hko, show k - 1 < out.length by omega] using h5
        have hne : (at' out (k - 1)).id ≠ e.id := by
          have hids := (List.pairwise_append.1 hids0).1
          have h5 := List.pairwise_iff_getElem.1 hids (k - 1) k (by omega) hko (by omega)
          rw [he]
          simpa [at', List.getD_eq_getElem?_getD, hko, show k - 1 < out.length by omega] using h5
        unfold TEv.le at hle
        omega
      have hwrd : Rd (Bw ++ (Bo ++ (A ++ F))) ⟨bw, (e.id - 1) * 1 + 0, none⟩ (.int .i64 (e.due : Int)) := hw.rdEl (fun _ => rfl) hwe 0 _ rfl
      rw [Nat.mul_one, Nat.add_zero] at hwrd
      have hout : ∀ (q j : Nat) v, q < out.length → (gE (at' out q))[j]? = some v → Rd (Bw ++ (Bo ++ (A ++ F))) ⟨bo, q * 3 + j, none⟩ v := fun q j v hq hj => Rd.right (hs.rdEl (fun _ => rfl) (at_some hq) j v hj)
      have hdue := hW.due e (List.mem_cons_self ..)
      repeat (first | refine RunsE.seq ?_ | refine RunsE.skip ?_ | refine RunsE.block ?_ | refine RunsE.inBlock ?_ | refine RunsE.yes rfl ?_ | refine RunsE.no rfl ?_ | refine RunsE.exit rfl ?_)
      refine RunsE.region ?_
      refine OpsE.ev (Ev.move rfl) rfl ?_
      refine OpsE.ev (Ev.move rfl) rfl ?_
      refine OpsE.ev (Ev.lenSl (d := 33) rfl rfl (by kernel_rfl)) rfl ?_
      refine OpsE.ev (Ev.lss (r := true) rfl rfl (decide_eq_true (by (try simp only); omega))) rfl ?_
      refine OpsE.nil ?_
      repeat (first | refine RunsE.seq ?_ | refine RunsE.skip ?_ | refine RunsE.block ?_ | refine RunsE.inBlock ?_ | refine RunsE.yes rfl ?_ | refine RunsE.no rfl ?_ | refine RunsE.exit rfl ?_)
      repeat (first | refine RunsE.seq ?_ | refine RunsE.skip ?_ | refine RunsE.block ?_ | refine RunsE.inBlock ?_ | refine RunsE.yes rfl ?_ | refine RunsE.no rfl ?_ | refine RunsE.exit rfl ?_)
      refine RunsE.region ?_
      refine OpsE.ev (Ev.move rfl) rfl ?_
      refine OpsE.ev (Ev.move rfl) rfl ?_
      refine OpsE.ev (Ev.iaSl (n := 33) (sz := 3) (m := k) (o := k * 3) rfl rfl rfl (by kernel_rfl) (by omega) (Nat.zero_add _)) rfl ?_
      refine OpsE.ev (Ev.loadAgg (vs := gE e) H rfl (by kernel_rfl) (fun j v hj => by rw [add_none]; exact hout k j v hko (by rw [← he]; exact hj))) rfl ?_
      refine OpsE.ex (Ex.alloc (zv := .agg #[.int .i64 0, .int .i64 0, .string .empty]) H (by kernel_rfl)) rfl ?_; (try clear H); rintro _ w ⟨b17, rfl, H⟩; simp only [Value.cells] at H
      refine OpsE.exn (Ex.storeBlk (n := 3) (vs := gE e) H rfl rfl (by kernel_rfl) rfl (gE_one _) u0 rfl (Thaw.zero _ _)) ?_; (try clear H); intro _ w H
      refine OpsE.nil ?_
      refine RunsE.seq ?_
      refine (RunsE.join (fun _ : Unit => [(1, .slice at_ ts.length ct), (5, .pointer (some ⟨b, 0, none⟩)), (6, .slice (some ⟨bw, 0, none⟩) n cw), (11, .int .i64 (now' : Int)), (12, .int .i64 (seen : Int)), (13, .int .i64 (i : Int)), (14, .int .i64 (now : Int)), (15, .slice (some ⟨bo, 0, none⟩) out.length co), (16, .int .i64 (k : Int)), (17, .pointer (some ⟨b17, 0, none⟩))])
        (fun _ w => SL w ((b17, .cells (gE e).toArray 33 (0, 0)) :: (Bw ++ (Bo ++ (A ++ F))))) (fun next2 => ?_) ?_)
      · have hzd := Nat.eq_zero_or_pos i
        have hkd := Nat.eq_zero_or_pos k
        have hpd : (at' out (k - 1)).due = e.due ∨ (at' out (k - 1)).due ≠ e.due := by omega
        rcases hzd with hi0 | hi0 <;> rcases hkd with hk0 | hk0 <;> rcases hpd with hpd | hpd
        all_goals
          repeat (first | refine RunsE.seq ?_ | refine RunsE.skip ?_ | refine RunsE.block ?_ | refine RunsE.inBlock ?_ | refine RunsE.yes rfl ?_ | refine RunsE.no rfl ?_ | refine RunsE.exit rfl ?_)
          refine RunsE.drawS H [] (by kernel_rfl) ?_; (try clear H); intro w H
          refine OpsD.take 0 rfl (by kernel_rfl) (by first | exact H | exact H.drop | exact H.drop.drop | exact H.dropL | exact H.drop.dropL | exact H.dropL.dropL) (fun w H => Ev.fieldAddr (o := 0) rfl (by kernel_rfl)) rfl ?_
          refine OpsD.take 1 rfl (by kernel_rfl) (by first | exact H | exact H.drop | exact H.drop.drop | exact H.dropL | exact H.drop.dropL | exact H.dropL.dropL) (fun w H => Ev.load (v := .int .i64 (e.id : Int)) H rfl (by kernel_rfl) (Rd.mk m0 rfl)) rfl ?_
          refine OpsD.take 2 rfl (by kernel_rfl) (by first | exact H | exact H.drop | exact H.drop.drop | exact H.dropL | exact H.drop.dropL | exact H.dropL.dropL) (fun w H => Ev.lss rfl rfl (decide_eq_false (by omega))) rfl ?_
          refine OpsD.take 3 rfl (by kernel_rfl) (by first | exact H | exact H.drop | exact H.drop.drop | exact H.dropL | exact H.drop.dropL | exact H.dropL.dropL) (fun w H => Ev.move rfl) rfl ?_
          first | refine OpsD.takeYes 4 rfl (by kernel_rfl) rfl rfl H (fun w H => Ev.fieldAddr (o := 0) rfl (by kernel_rfl)) rfl ?_ | refine OpsD.takeNo 4 rfl (by kernel_rfl) rfl rfl H rfl ?_ | refine OpsD.takeOff 4 rfl (by kernel_rfl) rfl rfl H rfl ?_
          first | refine OpsD.takeYes 5 rfl (by kernel_rfl) rfl rfl H (fun w H => Ev.load (v := .int .i64 (e.id : Int)) H rfl (by kernel_rfl) (Rd.mk m0 rfl)) rfl ?_ | refine OpsD.takeNo 5 rfl (by kernel_rfl) rfl rfl H rfl ?_ | refine OpsD.takeOff 5 rfl (by kernel_rfl) rfl rfl H rfl ?_
          first | refine OpsD.takeYes 6 rfl (by kernel_rfl) rfl rfl H (fun w H => Ev.move rfl) rfl ?_ | refine OpsD.takeNo 6 rfl (by kernel_rfl) rfl rfl H rfl ?_ | refine OpsD.takeOff 6 rfl (by kernel_rfl) rfl rfl H rfl ?_
          first | refine OpsD.takeYes 7 rfl (by kernel_rfl) rfl rfl H (fun w H => Ev.lenSl (d := 3) rfl rfl (by kernel_rfl)) rfl ?_ | refine OpsD.takeNo 7 rfl (by kernel_rfl) rfl rfl H rfl ?_ | refine OpsD.takeOff 7 rfl (by kernel_rfl) rfl rfl H rfl ?_
          first | refine OpsD.takeYes 8 rfl (by kernel_rfl) rfl rfl H (fun w H => Ev.gtr rfl rfl (decide_eq_false (by omega))) rfl ?_ | refine OpsD.takeNo 8 rfl (by kernel_rfl) rfl rfl H rfl ?_ | refine OpsD.takeOff 8 rfl (by kernel_rfl) rfl rfl H rfl ?_
          refine OpsD.take 9 rfl (by kernel_rfl) (by first | exact H | exact H.drop | exact H.drop.drop | exact H.dropL | exact H.drop.dropL | exact H.dropL.dropL) (fun w H => (by first | exact Ev.pickT rfl rfl | exact Ev.pickF rfl rfl)) rfl ?_
          refine OpsD.take 10 rfl (by kernel_rfl) (by first | exact H | exact H.drop | exact H.drop.drop | exact H.dropL | exact H.drop.dropL | exact H.dropL.dropL) (fun w H => Ev.move rfl) rfl ?_
          first | refine OpsD.takeYes 11 rfl (by kernel_rfl) rfl rfl H (fun w H => Ev.move rfl) rfl ?_ | refine OpsD.takeNo 11 rfl (by kernel_rfl) rfl rfl H rfl ?_ | refine OpsD.takeOff 11 rfl (by kernel_rfl) rfl rfl H rfl ?_
          first | refine OpsD.takeYes 12 rfl (by kernel_rfl) rfl rfl H (fun w H => Ev.fieldAddr (o := 0) rfl (by kernel_rfl)) rfl ?_ | refine OpsD.takeNo 12 rfl (by kernel_rfl) rfl rfl H rfl ?_ | refine OpsD.takeOff 12 rfl (by kernel_rfl) rfl rfl H rfl ?_
          first | refine OpsD.takeYes 13 rfl (by kernel_rfl) rfl rfl H (fun w H => Ev.load (v := .int .i64 (e.id : Int)) H rfl (by kernel_rfl) (Rd.mk m0 rfl)) rfl ?_ | refine OpsD.takeNo 13 rfl (by kernel_rfl) rfl rfl H rfl ?_ | refine OpsD.takeOff 13 rfl (by kernel_rfl) rfl rfl H rfl ?_
          first | refine OpsD.takeYes 14 rfl (by kernel_rfl) rfl rfl H (fun w H => Ev.sub (c := ((e.id - 1 : Nat) : Int)) rfl rfl (by (try simp only); rw [qi64 (by omega) (by omega)]; omega)) rfl ?_ | refine OpsD.takeNo 14 rfl (by kernel_rfl) rfl rfl H rfl ?_ | refine OpsD.takeOff 14 rfl (by kernel_rfl) rfl rfl H rfl ?_
          first | refine OpsD.takeYes 15 rfl (by kernel_rfl) rfl rfl H (fun w H => Ev.iaSl (n := 3) (sz := 1) (m := e.id - 1) rfl rfl rfl (by kernel_rfl) (by omega)) rfl ?_ | refine OpsD.takeNo 15 rfl (by kernel_rfl) rfl rfl H rfl ?_ | refine OpsD.takeOff 15 rfl (by kernel_rfl) rfl rfl H rfl ?_
          first | refine OpsD.takeYes 16 rfl (by kernel_rfl) rfl rfl H (fun w H => Ev.load H rfl (by kernel_rfl) hwrd.tail) rfl ?_ | refine OpsD.takeNo 16 rfl (by kernel_rfl) rfl rfl H rfl ?_ | refine OpsD.takeOff 16 rfl (by kernel_rfl) rfl rfl H rfl ?_
          first | refine OpsD.takeYes 17 rfl (by kernel_rfl) rfl rfl H (fun w H => Ev.fieldAddr (o := 1) rfl (by kernel_rfl)) rfl ?_ | refine OpsD.takeNo 17 rfl (by kernel_rfl) rfl rfl H rfl ?_ | refine OpsD.takeOff 17 rfl (by kernel_rfl) rfl rfl H rfl ?_
          first | refine OpsD.takeYes 18 rfl (by kernel_rfl) rfl rfl H (fun w H => Ev.load (v := .int .i64 (e.due : Int)) H rfl (by kernel_rfl) (Rd.mk m0 rfl)) rfl ?_ | refine OpsD.takeNo 18 rfl (by kernel_rfl) rfl rfl H rfl ?_ | refine OpsD.takeOff 18 rfl (by kernel_rfl) rfl rfl H rfl ?_
          first | refine OpsD.takeYes 19 rfl (by kernel_rfl) rfl rfl H (fun w H => Ev.neq rfl rfl (bne_eq_false_iff_eq.2 rfl)) rfl ?_ | refine OpsD.takeNo 19 rfl (by kernel_rfl) rfl rfl H rfl ?_ | refine OpsD.takeOff 19 rfl (by kernel_rfl) rfl rfl H rfl ?_
          refine OpsD.take 20 rfl (by kernel_rfl) (by first | exact H | exact H.drop | exact H.drop.drop | exact H.dropL | exact H.drop.dropL | exact H.dropL.dropL) (fun w H => (by first | exact Ev.pickT rfl rfl | exact Ev.pickF rfl rfl)) rfl ?_
          refine OpsD.take 21 rfl (by kernel_rfl) (by first | exact H | exact H.drop | exact H.drop.drop | exact H.dropL | exact H.drop.dropL | exact H.dropL.dropL) (fun w H => Ev.move rfl) rfl ?_
          first | refine OpsD.takeYes 22 rfl (by kernel_rfl) rfl rfl H (fun w H => Ev.fieldAddr (o := 1) rfl (by kernel_rfl)) rfl ?_ | refine OpsD.takeNo 22 rfl (by kernel_rfl) rfl rfl H rfl ?_ | refine OpsD.takeOff 22 rfl (by kernel_rfl) rfl rfl H rfl ?_
          first | refine OpsD.takeYes 23 rfl (by kernel_rfl) rfl rfl H (fun w H => Ev.load (v := .int .i64 (e.due : Int)) H rfl (by kernel_rfl) (Rd.mk m0 rfl)) rfl ?_ | refine OpsD.takeNo 23 rfl (by kernel_rfl) rfl rfl H rfl ?_ | refine OpsD.takeOff 23 rfl (by kernel_rfl) rfl rfl H rfl ?_
          first | refine OpsD.takeYes 24 rfl (by kernel_rfl) rfl rfl H (fun w H => Ev.move rfl) rfl ?_ | refine OpsD.takeNo 24 rfl (by kernel_rfl) rfl rfl H rfl ?_ | refine OpsD.takeOff 24 rfl (by kernel_rfl) rfl rfl H rfl ?_
          first | refine OpsD.takeYes 25 rfl (by kernel_rfl) rfl rfl H (fun w H => Ev.gtr rfl rfl (decide_eq_false (by omega))) rfl ?_ | refine OpsD.takeNo 25 rfl (by kernel_rfl) rfl rfl H rfl ?_ | refine OpsD.takeOff 25 rfl (by kernel_rfl) rfl rfl H rfl ?_
          refine OpsD.take 26 rfl (by kernel_rfl) (by first | exact H | exact H.drop | exact H.drop.drop | exact H.dropL | exact H.drop.dropL | exact H.dropL.dropL) (fun w H => (by first | exact Ev.pickT rfl rfl | exact Ev.pickF rfl rfl)) rfl ?_
          refine OpsD.take 27 rfl (by kernel_rfl) (by first | exact H | exact H.drop | exact H.drop.drop | exact H.dropL | exact H.drop.dropL | exact H.dropL.dropL) (fun w H => Ev.move rfl) rfl ?_
          first | refine OpsD.takeYes 28 rfl (by kernel_rfl) rfl rfl H (fun w H => Ev.move rfl) rfl ?_ | refine OpsD.takeNo 28 rfl (by kernel_rfl) rfl rfl H rfl ?_ | refine OpsD.takeOff 28 rfl (by kernel_rfl) rfl rfl H rfl ?_
          first | refine OpsD.takeYes 29 rfl (by kernel_rfl) rfl rfl H (fun w H => Ev.gtr rfl rfl) rfl ?_ | refine OpsD.takeNo 29 rfl (by kernel_rfl) rfl rfl H rfl ?_ | refine OpsD.takeOff 29 rfl (by kernel_rfl) rfl rfl H rfl ?_
          first | refine OpsD.takeYes 30 rfl (by kernel_rfl) rfl rfl H (fun w H => Ev.move rfl) rfl ?_ | refine OpsD.takeNo 30 rfl (by kernel_rfl) rfl rfl H rfl ?_ | refine OpsD.takeOff 30 rfl (by kernel_rfl) rfl rfl H rfl ?_
          first | refine OpsD.takeYes 31 rfl (by kernel_rfl) rfl rfl H (fun w H => Ev.fieldAddr (o := 1) rfl (by kernel_rfl)) rfl ?_ | refine OpsD.takeNo 31 rfl (by kernel_rfl) rfl rfl H rfl ?_ | refine OpsD.takeOff 31 rfl (by kernel_rfl) rfl rfl H rfl ?_
          first | refine OpsD.takeYes 32 rfl (by kernel_rfl) rfl rfl H (fun w H => Ev.load (v := .int .i64 (e.due : Int)) H rfl (by kernel_rfl) (Rd.mk m0 rfl)) rfl ?_ | refine OpsD.takeNo 32 rfl (by kernel_rfl) rfl rfl H rfl ?_ | refine OpsD.takeOff 32 rfl (by kernel_rfl) rfl rfl H rfl ?_
          first | refine OpsD.takeYes 33 rfl (by kernel_rfl) rfl rfl H (fun w H => Ev.move rfl) rfl ?_ | refine OpsD.takeNo 33 rfl (by kernel_rfl) rfl rfl H rfl ?_ | refine OpsD.takeOff 33 rfl (by kernel_rfl) rfl rfl H rfl ?_
          first | refine OpsD.takeYes 34 rfl (by kernel_rfl) rfl rfl H (fun w H => Ev.leq rfl rfl (decide_eq_false (by have := hfr hi0 e hmem; omega))) rfl ?_ | refine OpsD.takeNo 34 rfl (by kernel_rfl) rfl rfl H rfl ?_ | refine OpsD.takeOff 34 rfl (by kernel_rfl) rfl rfl H rfl ?_
          first | refine OpsD.takeYes 35 rfl (by kernel_rfl) rfl rfl H (fun w H => (by first | exact Ev.pickT rfl rfl | exact Ev.pickF rfl rfl)) rfl ?_ | refine OpsD.takeNo 35 rfl (by kernel_rfl) rfl rfl H rfl ?_ | refine OpsD.takeOff 35 rfl (by kernel_rfl) rfl rfl H rfl ?_
          refine OpsD.take 36 rfl (by kernel_rfl) (by first | exact H | exact H.drop | exact H.drop.drop | exact H.dropL | exact H.drop.dropL | exact H.dropL.dropL) (fun w H => (by first | exact Ev.pickT rfl rfl | exact Ev.pickF rfl rfl)) rfl ?_
          refine OpsD.take 37 rfl (by kernel_rfl) (by first | exact H | exact H.drop | exact H.drop.drop | exact H.dropL | exact H.drop.dropL | exact H.dropL.dropL) (fun w H => Ev.move rfl) rfl ?_
          first | refine OpsD.takeYes 38 rfl (by kernel_rfl) rfl rfl H (fun w H => Ev.move rfl) rfl ?_ | refine OpsD.takeNo 38 rfl (by kernel_rfl) rfl rfl H rfl ?_ | refine OpsD.takeOff 38 rfl (by kernel_rfl) rfl rfl H rfl ?_
          first | refine OpsD.takeYes 39 rfl (by kernel_rfl) rfl rfl H (fun w H => Ev.gtr rfl rfl) rfl ?_ | refine OpsD.takeNo 39 rfl (by kernel_rfl) rfl rfl H rfl ?_ | refine OpsD.takeOff 39 rfl (by kernel_rfl) rfl rfl H rfl ?_
          first | refine OpsD.takeYes 40 rfl (by kernel_rfl) rfl rfl H (fun w H => Ev.move rfl) rfl ?_ | refine OpsD.takeNo 40 rfl (by kernel_rfl) rfl rfl H rfl ?_ | refine OpsD.takeOff 40 rfl (by kernel_rfl) rfl rfl H rfl ?_
          first | refine OpsD.takeYes 41 rfl (by kernel_rfl) rfl rfl H (fun w H => Ev.move rfl) rfl ?_ | refine OpsD.takeNo 41 rfl (by kernel_rfl) rfl rfl H rfl ?_ | refine OpsD.takeOff 41 rfl (by kernel_rfl) rfl rfl H rfl ?_
          first | refine OpsD.takeYes 42 rfl (by kernel_rfl) rfl rfl H (fun w H => Ev.move rfl) rfl ?_ | refine OpsD.takeNo 42 rfl (by kernel_rfl) rfl rfl H rfl ?_ | refine OpsD.takeOff 42 rfl (by kernel_rfl) rfl rfl H rfl ?_
          first | refine OpsD.takeYes 43 rfl (by kernel_rfl) rfl rfl H (fun w H => Ev.sub (c := ((k - 1 : Nat) : Int)) rfl rfl (by (try simp only); rw [qi64 (by omega) (by omega)]; omega)) rfl ?_ | refine OpsD.takeNo 43 rfl (by kernel_rfl) rfl rfl H rfl ?_ | refine OpsD.takeOff 43 rfl (by kernel_rfl) rfl rfl H rfl ?_
          first | refine OpsD.takeYes 44 rfl (by kernel_rfl) rfl rfl H (fun w H => Ev.iaSl (n := 33) (sz := 3) (m := k - 1) (o := (k - 1) * 3) rfl rfl rfl (by kernel_rfl) (by omega) (Nat.zero_add _)) rfl ?_ | refine OpsD.takeNo 44 rfl (by kernel_rfl) rfl rfl H rfl ?_ | refine OpsD.takeOff 44 rfl (by kernel_rfl) rfl rfl H rfl ?_
          first | refine OpsD.takeYes 45 rfl (by kernel_rfl) rfl rfl H (fun w H => Ev.fieldAddr (o := 1) rfl (by kernel_rfl)) rfl ?_ | refine OpsD.takeNo 45 rfl (by kernel_rfl) rfl rfl H rfl ?_ | refine OpsD.takeOff 45 rfl (by kernel_rfl) rfl rfl H rfl ?_
          first | refine OpsD.takeYes 46 rfl (by kernel_rfl) rfl rfl H (fun w H => Ev.load H rfl (by kernel_rfl) (hout (k - 1) 1 (.int .i64 ((at' out (k - 1)).due : Int)) (by omega) rfl).tail) rfl ?_ | refine OpsD.takeNo 46 rfl (by kernel_rfl) rfl rfl H rfl ?_ | refine OpsD.takeOff 46 rfl (by kernel_rfl) rfl rfl H rfl ?_
          first | refine OpsD.takeYes 47 rfl (by kernel_rfl) rfl rfl H (fun w H => Ev.fieldAddr (o := 1) rfl (by kernel_rfl)) rfl ?_ | refine OpsD.takeNo 47 rfl (by kernel_rfl) rfl rfl H rfl ?_ | refine OpsD.takeOff 47 rfl (by kernel_rfl) rfl rfl H rfl ?_
          first | refine OpsD.takeYes 48 rfl (by kernel_rfl) rfl rfl H (fun w H => Ev.load (v := .int .i64 (e.due : Int)) H rfl (by kernel_rfl) (Rd.mk m0 rfl)) rfl ?_ | refine OpsD.takeNo 48 rfl (by kernel_rfl) rfl rfl H rfl ?_ | refine OpsD.takeOff 48 rfl (by kernel_rfl) rfl rfl H rfl ?_
          first | refine OpsD.takeYes 49 rfl (by kernel_rfl) rfl rfl H (fun w H => Ev.gtr rfl rfl (decide_eq_false (by have := hprev hk0; omega))) rfl ?_ | refine OpsD.takeNo 49 rfl (by kernel_rfl) rfl rfl H rfl ?_ | refine OpsD.takeOff 49 rfl (by kernel_rfl) rfl rfl H rfl ?_
          first | refine OpsD.takeYes 50 rfl (by kernel_rfl) rfl rfl H (fun w H => Ev.move rfl) rfl ?_ | refine OpsD.takeNo 50 rfl (by kernel_rfl) rfl rfl H rfl ?_ | refine OpsD.takeOff 50 rfl (by kernel_rfl) rfl rfl H rfl ?_
          first | refine OpsD.takeYes 51 rfl (by kernel_rfl) rfl rfl H (fun w H => Ev.move rfl) rfl ?_ | refine OpsD.takeNo 51 rfl (by kernel_rfl) rfl rfl H rfl ?_ | refine OpsD.takeOff 51 rfl (by kernel_rfl) rfl rfl H rfl ?_
          first | refine OpsD.takeYes 52 rfl (by kernel_rfl) rfl rfl H (fun w H => Ev.move rfl) rfl ?_ | refine OpsD.takeNo 52 rfl (by kernel_rfl) rfl rfl H rfl ?_ | refine OpsD.takeOff 52 rfl (by kernel_rfl) rfl rfl H rfl ?_
          first | refine OpsD.takeYes 53 rfl (by kernel_rfl) rfl rfl H (fun w H => Ev.sub (c := ((k - 1 : Nat) : Int)) rfl rfl (by (try simp only); rw [qi64 (by omega) (by omega)]; omega)) rfl ?_ | refine OpsD.takeNo 53 rfl (by kernel_rfl) rfl rfl H rfl ?_ | refine OpsD.takeOff 53 rfl (by kernel_rfl) rfl rfl H rfl ?_
          first | refine OpsD.takeYes 54 rfl (by kernel_rfl) rfl rfl H (fun w H => Ev.iaSl (n := 33) (sz := 3) (m := k - 1) (o := (k - 1) * 3) rfl rfl rfl (by kernel_rfl) (by omega) (Nat.zero_add _)) rfl ?_ | refine OpsD.takeNo 54 rfl (by kernel_rfl) rfl rfl H rfl ?_ | refine OpsD.takeOff 54 rfl (by kernel_rfl) rfl rfl H rfl ?_
          first | refine OpsD.takeYes 55 rfl (by kernel_rfl) rfl rfl H (fun w H => Ev.fieldAddr (o := 1) rfl (by kernel_rfl)) rfl ?_ | refine OpsD.takeNo 55 rfl (by kernel_rfl) rfl rfl H rfl ?_ | refine OpsD.takeOff 55 rfl (by kernel_rfl) rfl rfl H rfl ?_
          first | refine OpsD.takeYes 56 rfl (by kernel_rfl) rfl rfl H (fun w H => Ev.load H rfl (by kernel_rfl) (hout (k - 1) 1 (.int .i64 ((at' out (k - 1)).due : Int)) (by omega) rfl).tail) rfl ?_ | refine OpsD.takeNo 56 rfl (by kernel_rfl) rfl rfl H rfl ?_ | refine OpsD.takeOff 56 rfl (by kernel_rfl) rfl rfl H rfl ?_
          first | refine OpsD.takeYes 57 rfl (by kernel_rfl) rfl rfl H (fun w H => Ev.fieldAddr (o := 1) rfl (by kernel_rfl)) rfl ?_ | refine OpsD.takeNo 57 rfl (by kernel_rfl) rfl rfl H rfl ?_ | refine OpsD.takeOff 57 rfl (by kernel_rfl) rfl rfl H rfl ?_
          first | refine OpsD.takeYes 58 rfl (by kernel_rfl) rfl rfl H (fun w H => Ev.load (v := .int .i64 (e.due : Int)) H rfl (by kernel_rfl) (Rd.mk m0 rfl)) rfl ?_ | refine OpsD.takeNo 58 rfl (by kernel_rfl) rfl rfl H rfl ?_ | refine OpsD.takeOff 58 rfl (by kernel_rfl) rfl rfl H rfl ?_
          first | refine OpsD.takeYes 59 rfl (by kernel_rfl) rfl rfl H (fun w H => Ev.eql rfl rfl) rfl ?_ | refine OpsD.takeNo 59 rfl (by kernel_rfl) rfl rfl H rfl ?_ | refine OpsD.takeOff 59 rfl (by kernel_rfl) rfl rfl H rfl ?_
          first | refine OpsD.takeYes 60 rfl (by kernel_rfl) rfl rfl H (fun w H => Ev.move rfl) rfl ?_ | refine OpsD.takeNo 60 rfl (by kernel_rfl) rfl rfl H rfl ?_ | refine OpsD.takeOff 60 rfl (by kernel_rfl) rfl rfl H rfl ?_
          first | refine OpsD.takeYes 61 rfl (by kernel_rfl) rfl rfl H (fun w H => Ev.move rfl) rfl ?_ | refine OpsD.takeNo 61 rfl (by kernel_rfl) rfl rfl H rfl ?_ | refine OpsD.takeOff 61 rfl (by kernel_rfl) rfl rfl H rfl ?_
          first | refine OpsD.takeYes 62 rfl (by kernel_rfl) rfl rfl H (fun w H => Ev.move rfl) rfl ?_ | refine OpsD.takeNo 62 rfl (by kernel_rfl) rfl rfl H rfl ?_ | refine OpsD.takeOff 62 rfl (by kernel_rfl) rfl rfl H rfl ?_
          first | refine OpsD.takeYes 63 rfl (by kernel_rfl) rfl rfl H (fun w H => Ev.sub (c := ((k - 1 : Nat) : Int)) rfl rfl (by (try simp only); rw [qi64 (by omega) (by omega)]; omega)) rfl ?_ | refine OpsD.takeNo 63 rfl (by kernel_rfl) rfl rfl H rfl ?_ | refine OpsD.takeOff 63 rfl (by kernel_rfl) rfl rfl H rfl ?_
          first | refine OpsD.takeYes 64 rfl (by kernel_rfl) rfl rfl H (fun w H => Ev.iaSl (n := 33) (sz := 3) (m := k - 1) (o := (k - 1) * 3) rfl rfl rfl (by kernel_rfl) (by omega) (Nat.zero_add _)) rfl ?_ | refine OpsD.takeNo 64 rfl (by kernel_rfl) rfl rfl H rfl ?_ | refine OpsD.takeOff 64 rfl (by kernel_rfl) rfl rfl H rfl ?_
          first | refine OpsD.takeYes 65 rfl (by kernel_rfl) rfl rfl H (fun w H => Ev.fieldAddr (o := 0) rfl (by kernel_rfl)) rfl ?_ | refine OpsD.takeNo 65 rfl (by kernel_rfl) rfl rfl H rfl ?_ | refine OpsD.takeOff 65 rfl (by kernel_rfl) rfl rfl H rfl ?_
          first | refine OpsD.takeYes 66 rfl (by kernel_rfl) rfl rfl H (fun w H => Ev.load H rfl (by kernel_rfl) (hout (k - 1) 0 (.int .i64 ((at' out (k - 1)).id : Int)) (by omega) rfl).tail) rfl ?_ | refine OpsD.takeNo 66 rfl (by kernel_rfl) rfl rfl H rfl ?_ | refine OpsD.takeOff 66 rfl (by kernel_rfl) rfl rfl H rfl ?_
          first | refine OpsD.takeYes 67 rfl (by kernel_rfl) rfl rfl H (fun w H => Ev.fieldAddr (o := 0) rfl (by kernel_rfl)) rfl ?_ | refine OpsD.takeNo 67 rfl (by kernel_rfl) rfl rfl H rfl ?_ | refine OpsD.takeOff 67 rfl (by kernel_rfl) rfl rfl H rfl ?_
          first | refine OpsD.takeYes 68 rfl (by kernel_rfl) rfl rfl H (fun w H => Ev.load (v := .int .i64 (e.id : Int)) H rfl (by kernel_rfl) (Rd.mk m0 rfl)) rfl ?_ | refine OpsD.takeNo 68 rfl (by kernel_rfl) rfl rfl H rfl ?_ | refine OpsD.takeOff 68 rfl (by kernel_rfl) rfl rfl H rfl ?_
          first | refine OpsD.takeYes 69 rfl (by kernel_rfl) rfl rfl H (fun w H => Ev.geq rfl rfl (decide_eq_false (by have := hprev hk0; omega))) rfl ?_ | refine OpsD.takeNo 69 rfl (by kernel_rfl) rfl rfl H rfl ?_ | refine OpsD.takeOff 69 rfl (by kernel_rfl) rfl rfl H rfl ?_
          first | refine OpsD.takeYes 70 rfl (by kernel_rfl) rfl rfl H (fun w H => (by first | exact Ev.pickT rfl rfl | exact Ev.pickF rfl rfl)) rfl ?_ | refine OpsD.takeNo 70 rfl (by kernel_rfl) rfl rfl H rfl ?_ | refine OpsD.takeOff 70 rfl (by kernel_rfl) rfl rfl H rfl ?_
          first | refine OpsD.takeYes 71 rfl (by kernel_rfl) rfl rfl H (fun w H => (by first | exact Ev.pickT rfl rfl | exact Ev.pickF rfl rfl)) rfl ?_ | refine OpsD.takeNo 71 rfl (by kernel_rfl) rfl rfl H rfl ?_ | refine OpsD.takeOff 71 rfl (by kernel_rfl) rfl rfl H rfl ?_
          first | refine OpsD.takeYes 72 rfl (by kernel_rfl) rfl rfl H (fun w H => (by first | exact Ev.pickT rfl rfl | exact Ev.pickF rfl rfl)) rfl ?_ | refine OpsD.takeNo 72 rfl (by kernel_rfl) rfl rfl H rfl ?_ | refine OpsD.takeOff 72 rfl (by kernel_rfl) rfl rfl H rfl ?_
          refine OpsD.take 73 rfl (by kernel_rfl) (by first | exact H | exact H.drop | exact H.drop.drop | exact H.dropL | exact H.drop.dropL | exact H.dropL.dropL) (fun w H => (by first | exact Ev.pickT rfl rfl | exact Ev.pickF rfl rfl)) rfl ?_
          refine OpsD.done (by kernel_rfl) ?_
          repeat refine RunsE.seq ?_
          refine RunsE.no rfl ?_
          refine RunsE.skip ?_
          exact next2 () _ _ H ⟨rfl, rfl, rfl, rfl, rfl, rfl, rfl, rfl, rfl, rfl, trivial⟩
      clear H
      rintro _ w H
      repeat (first | refine RunsE.seq ?_ | refine RunsE.skip ?_ | refine RunsE.block ?_ | refine RunsE.inBlock ?_ | refine RunsE.yes rfl ?_ | refine RunsE.no rfl ?_ | refine RunsE.exit rfl ?_)
      refine RunsE.region ?_
      refine OpsE.ev (Ev.move rfl) rfl ?_
      refine OpsE.ev (Ev.fieldAddr (o := 0) rfl (by kernel_rfl)) rfl ?_
      refine OpsE.ev (Ev.load (v := .int .i64 (e.id : Int)) H rfl (by kernel_rfl) (Rd.mk m0 rfl)) rfl ?_
      refine OpsE.ev (Ev.sub (c := ((e.id - 1 : Nat) : Int)) rfl rfl (by (try simp only); rw [qi64 (by omega) (by omega)]; omega)) rfl ?_
      refine OpsE.ev (Ev.iaSl (n := 3) (sz := 1) (m := e.id - 1) (o := (e.id - 1) * 1) rfl rfl rfl (by kernel_rfl) (by omega) (Nat.zero_add _)) rfl ?_
      refine OpsE.exn (Ex.storeEl (B0 := [(b17, _)]) (i := e.id - 1) (a := (-1 : Int)) H rfl rfl rfl (by kernel_rfl) hw (fun _ => rfl) (by simp [Value.oneCell']) (by omega)) ?_; (try clear H); rintro _ w ⟨Bw, hw, H⟩; replace H : SL w (_ :: (Bw ++ (Bo ++ (A ++ F)))) := H
      refine OpsE.nil ?_
      repeat (first | refine RunsE.seq ?_ | refine RunsE.skip ?_ | refine RunsE.block ?_ | refine RunsE.inBlock ?_ | refine RunsE.yes rfl ?_ | refine RunsE.no rfl ?_ | refine RunsE.exit rfl ?_)
      refine RunsE.region ?_
      refine OpsE.ev (Ev.move rfl) rfl ?_
      refine OpsE.ev (Ev.add (c := ((seen + 1 : Nat) : Int)) rfl rfl (by (try simp only); rw [qi64 (by omega) (by omega)]; omega)) rfl ?_
      refine OpsE.ev (Ev.assign rfl) rfl ?_
      refine OpsE.nil ?_
      repeat (first | refine RunsE.seq ?_ | refine RunsE.skip ?_ | refine RunsE.block ?_ | refine RunsE.inBlock ?_ | refine RunsE.yes rfl ?_ | refine RunsE.no rfl ?_ | refine RunsE.exit rfl ?_)
      refine RunsE.region ?_
      refine OpsE.ev (Ev.move rfl) rfl ?_
      refine OpsE.ev (Ev.add rfl rfl) rfl ?_
      refine OpsE.ev (Ev.assign rfl) rfl ?_
      refine OpsE.nil ?_
      refine nextK (k + 1, seen + 1) _ _ (by (try simp only); omega) ⟨by simp only; omega, by simp only; omega, _, Bw, hw, hW.take, H.drop⟩ ⟨rfl, rfl, rfl, rfl, rfl, rfl, rfl, rfl, rfl, trivial⟩
    clear H hw hseen hW2 wl Bw
    rintro seen' w ⟨hseen, wl, Bw, hw, hW, H⟩
    replace H : SL w (A ++ (Bw ++ F)) := H.dropIn.swapL
    have hR' : ∀ j, Round2 F b n (.slice aw n cw) j now' seen' w := fun j => .of ⟨ys, A, wl, Bw, hA, hw, hW, hseen, fun _ e he => by have := hp.rest e he; omega, H⟩
    by_cases h3 : 1000 ≤ now'
    ·
      repeat (first | refine RunsE.seq ?_ | refine RunsE.skip ?_ | refine RunsE.block ?_ | refine RunsE.inBlock ?_ | refine RunsE.yes rfl ?_ | refine RunsE.no rfl ?_ | refine RunsE.exit rfl ?_)
      refine RunsE.region ?_
      refine OpsE.ev (Ev.move rfl) rfl ?_
      refine OpsE.ev (Ev.geq (r := true) rfl rfl (decide_eq_true (by (try simp only); omega))) rfl ?_
      refine OpsE.nil ?_
      repeat refine RunsE.seq ?_
      refine RunsE.yes rfl ?_
      refine RunsE.exit rfl ?_
      exact next seen' _ _ ⟨i, now', hR' i⟩ ⟨rfl, rfl, rfl, trivial⟩
    ·
      repeat (first | refine RunsE.seq ?_ | refine RunsE.skip ?_ | refine RunsE.block ?_ | refine RunsE.inBlock ?_ | refine RunsE.yes rfl ?_ | refine RunsE.no rfl ?_ | refine RunsE.exit rfl ?_)
      refine RunsE.region ?_
      refine OpsE.ev (Ev.move rfl) rfl ?_
      refine OpsE.ev (Ev.geq (r := false) rfl rfl (decide_eq_false (by (try simp only); omega))) rfl ?_
      refine OpsE.nil ?_
      repeat (first | refine RunsE.seq ?_ | refine RunsE.skip ?_ | refine RunsE.block ?_ | refine RunsE.inBlock ?_ | refine RunsE.yes rfl ?_ | refine RunsE.no rfl ?_ | refine RunsE.exit rfl ?_)
      refine RunsE.region ?_
      refine OpsE.ev (Ev.move rfl) rfl ?_
      refine OpsE.ev (Ev.add rfl rfl) rfl ?_
      refine OpsE.ev (Ev.assign rfl) rfl ?_
      refine OpsE.nil ?_
      exact nextL (i + 1, now', seen') _ _ (by (try simp only); omega) ⟨by simp only; omega, by simp only; omega, hR' (i + 1)⟩ ⟨rfl, rfl, rfl, rfl, rfl, rfl, trivial⟩
  clear hR
  rintro seen w ⟨i, now, hR⟩
  obtain ⟨xs, A, wl, Bw, hA, hw, hW, hseen, _, H⟩ := hR.ex
  repeat (first | refine RunsE.seq ?_ | refine RunsE.skip ?_ | refine RunsE.block ?_ | refine RunsE.inBlock ?_ | refine RunsE.yes rfl ?_ | refine RunsE.no rfl ?_ | refine RunsE.exit rfl ?_)
  refine RunsE.region ?_
  refine OpsE.ev (Ev.move rfl) rfl ?_
  refine OpsE.ex (Ex.call rfl Try.call6 (tpop_spec b xs n 1073741824 (by omega) A w _ hA H)) rfl ?_; (try clear H); rintro vl w ⟨out, ys, Bo, A, hs, hp, hA, H⟩
  refine OpsE.nil ?_
  have hys : ys = [] := List.eq_nil_iff_forall_not_mem.2 fun a ha => by
    have h1 := hp.rest a ha
    have h2 := hW.due a (hp.perm.subset (List.mem_append_right _ ha))
    omega
  subst hys
  replace H : SL w (A ++ (Bw ++ F)) := H.dropL
  repeat (first | refine RunsE.seq ?_ | refine RunsE.skip ?_ | refine RunsE.block ?_ | refine RunsE.inBlock ?_ | refine RunsE.yes rfl ?_ | refine RunsE.no rfl ?_ | refine RunsE.exit rfl ?_)
  refine RunsE.region ?_
  refine OpsE.ev (Ev.move rfl) rfl ?_
  refine OpsE.ex (Ex.call rfl Try.call7 (tlen_spec b [] n A w _ hA H)) rfl ?_; (try clear H); rintro _ w ⟨rfl, H⟩
  refine OpsE.ev (Ev.eql (r := true) rfl rfl rfl) rfl ?_
  refine OpsE.ev (Ev.move rfl) rfl ?_
  first | (refine OpsE.yes rfl rfl ?_; refine OpsE.ev (Ev.move rfl) rfl ?_) | refine OpsE.no rfl rfl rfl ?_ | refine OpsE.off rfl rfl rfl ?_
  first | (refine OpsE.yes rfl rfl ?_; refine OpsE.ev (Ev.move rfl) rfl ?_) | refine OpsE.no rfl rfl rfl ?_ | refine OpsE.off rfl rfl rfl ?_
  first | (refine OpsE.yes rfl rfl ?_; refine OpsE.ev (Ev.lenSl (d := 3) rfl rfl (by kernel_rfl)) rfl ?_) | refine OpsE.no rfl rfl rfl ?_ | refine OpsE.off rfl rfl rfl ?_
  first | (refine OpsE.yes rfl rfl ?_; refine OpsE.ev (Ev.leq (r := true) rfl rfl (decide_eq_true (by omega))) rfl ?_) | refine OpsE.no rfl rfl rfl ?_ | refine OpsE.off rfl rfl rfl ?_
  refine OpsE.ev ((by first | exact Ev.pickT rfl rfl | exact Ev.pickF rfl rfl)) rfl ?_
  refine OpsE.ev (Ev.move rfl) rfl ?_
  first | (refine OpsE.yes rfl rfl ?_; refine OpsE.ex (Ex.call rfl Try.call8 (sure_spec w _ H)) rfl ?_; (try clear H); rintro _ w ⟨rfl, H⟩) | refine OpsE.no rfl rfl rfl ?_ | refine OpsE.off rfl rfl rfl ?_
  refine OpsE.ev ((by first | exact Ev.pickT rfl rfl | exact Ev.pickF rfl rfl)) rfl ?_
  refine OpsE.ev (Ev.assign rfl) rfl ?_
  refine OpsE.nil ?_
  repeat (first | refine RunsE.seq ?_ | refine RunsE.skip ?_ | refine RunsE.block ?_ | refine RunsE.inBlock ?_ | refine RunsE.yes rfl ?_ | refine RunsE.no rfl ?_ | refine RunsE.exit rfl ?_)
  exact RunsE.ret1 Try.func3 rfl rfl ⟨rfl, H.dropL.dropL⟩

end Go.Proofs.Ytgeocehgobcdjaa
