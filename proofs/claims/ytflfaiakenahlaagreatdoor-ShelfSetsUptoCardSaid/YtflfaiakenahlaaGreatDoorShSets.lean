/-
  The law ShelfSets, walked.
-/
import Derived.Test.YtflfaiakenahlaaGreatDoorM11
namespace Go.Proofs.YtflfaiakenahlaaGreatDoor.V

/-- An area behind the first page, of a store that is up. -/
structure One (st : St) (n : Nat) (l : List Lf) : Prop where
  up : st.down = false
  q : st.Q = []
  arm : st.armed = false
  a : LaidS st.P 1 n l
  ok : OkL l n

theorem One.new {n : Nat} : One (St.new (n + 3)) n [] := ⟨rfl, rfl, rfl, laid_new (by omega), OkL.nil n⟩

theorem One.set {st : St} {n : Nat} {l : List Lf} (h : One st n l) (hn : 1 ≤ n) (hn2 : n ≤ 256) (cs : List Ch) : (setP st 1 n l 0 cs).2.2.2 = (setM l n cs).2.2.2 ∧ (setP st 1 n l 0 cs).2.1 = (setM l n cs).1 ∧ (setP st 1 n l 0 cs).2.2.1 = 0 ∧
    One (setP st 1 n l 0 cs).1 n (setM l n cs).1 ∧ ((setM l n cs).2.2.1 = true → (setP st 1 n l 0 cs).1.P.getD 1 [] = rootM (setM l n cs).1 n) := by
  obtain ⟨a1, a2, a3, a4, a5, _, a7, a8, a9, _⟩ := set_up cs h.up h.q h.arm h.a h.ok hn2 hn
  exact ⟨a1, a2, a3, ⟨a4, a5, a8, a7, set_ok h.ok⟩, a9⟩

theorem readAt_up {st : St} {p : Nat} (hp : p < st.P.length) (hd : st.down = false) (hQ : st.Q = []) : st.read (p : Int) = (st.P.getD p [], 0) := by
  unfold St.read
  rw [if_neg (by unfold St.has; simp [hp]), if_neg (by rw [hd]; decide), Int.toNat_natCast, page_noQ hQ]

end Go.Proofs.YtflfaiakenahlaaGreatDoor.V
namespace Go.Proofs.YtflfaiakenahlaaGreatDoor
open Go.Proofs.YtflfaiakenahlaaGreatDoor.V

/-- The shelf in memory, and the document's leaves. -/
def SeM [Strm] (p s n : Nat) (F : List (Nat × Obj)) (v : Value) (w : World) : Prop := ∃ st A m o l D, HoldS p st A ∧ One st n l ∧ Mp o (kvL l) ∧ LsAt (D ++ F) v l ∧ SL w ((s, shO p 1 n m 0) :: (m, o) :: (A ++ (D ++ F)))

set_option maxHeartbeats 8000000 in
theorem setslaw_spec [Strm] (count : Int) (xs : List (List Ch)) (vx : Value) (w : World) (F : List (Nat × Obj)) (hvx : ChssIn F vx xs) (hg : ErrIn F) (H : SL w F) :
    Does Tryz.prog 6 #[.int .i64 count, vx] w fun r w' => r = .bool true ∧ SL w' F := by
  obtain ⟨ax, cx, rfl, hcx⟩ := hvx.len
  obtain ⟨mm, hmm, _⟩ := u64_nat count
  obtain ⟨k9, hk9⟩ : ∃ k, k = mm % 9 := ⟨_, rfl⟩
  have hk9b : k9 < 9 := by omega
  obtain ⟨n, hn⟩ : ∃ n, n = 2 + k9 := ⟨_, rfl⟩
  have ho0 := opened (st := St.new (n + 3)) (fr := 1) rfl (One.new (n := n)).a (One.new (n := n)).ok (by omega)
  have hnl : (St.new (n + 3)).P.length = n + 3 := by simp [St.new]
  refine Does.intro (args := [_, _]) (e := [(0, _), (1, _)]) Tryz.func6 rfl Tryz.ntmps6 rfl rfl ?_
  repeat (first | refine .seq ?_ | refine .skip ?_ | refine .block ?_ | refine .inBlock ?_ | refine .yes rfl ?_ | refine .no rfl ?_ | refine .exit rfl ?_)
  repeat (first | refine .seq ?_ | refine .skip ?_ | refine .block ?_ | refine .inBlock ?_ | refine .yes rfl ?_ | refine .no rfl ?_ | refine .exit rfl ?_)
  refine RunsE.region ?_
  refine OpsE.ev (Ev.assign rfl) rfl ?_
  refine OpsE.nil ?_
  repeat (first | refine .seq ?_ | refine .skip ?_ | refine .block ?_ | refine .inBlock ?_ | refine .yes rfl ?_ | refine .no rfl ?_ | refine .exit rfl ?_)
  refine RunsE.region ?_
  refine OpsE.ev (Ev.assign rfl) rfl ?_
  refine OpsE.nil ?_
  repeat (first | refine .seq ?_ | refine .skip ?_ | refine .block ?_ | refine .inBlock ?_ | refine .yes rfl ?_ | refine .no rfl ?_ | refine .exit rfl ?_)
  refine RunsE.region ?_
  refine OpsE.ev (Ev.move rfl) rfl ?_
  refine OpsE.ex (Ex.call rfl Tryz.call19 (nget_spec [97] w F H)) rfl ?_; (try clear H); rintro _ w ⟨rfl, H⟩
  refine OpsE.ev (Ev.move rfl) rfl ?_
  refine OpsE.ev (Ev.extract rfl rfl) rfl ?_
  refine OpsE.ev (Ev.extract rfl rfl) rfl ?_
  refine OpsE.ev (Ev.assign rfl) rfl ?_
  refine OpsE.ev (Ev.assign rfl) rfl ?_
  refine OpsE.nil ?_
  repeat (first | refine .seq ?_ | refine .skip ?_ | refine .block ?_ | refine .inBlock ?_ | refine .yes rfl ?_ | refine .no rfl ?_ | refine .exit rfl ?_)
  refine RunsE.region ?_
  refine OpsE.ev (Ev.move rfl) rfl ?_
  refine OpsE.ex (Ex.call rfl Tryz.call16 (nset_spec _ w F H)) rfl ?_; (try clear H); rintro _ w ⟨rfl, H⟩
  refine OpsE.ex (Ex.call rfl Tryz.call12 (num_EV 1 w _ hg H)) rfl ?_; (try clear H); rintro _ w ⟨rfl, H⟩
  refine OpsE.ev (Ev.neq (r := false) rfl rfl rfl) rfl ?_
  refine OpsE.ev (Ev.move rfl) rfl ?_
  first | (refine OpsE.yes rfl rfl ?_; refine OpsE.ev (Ev.move rfl) rfl ?_) | refine OpsE.no rfl rfl rfl ?_ | refine OpsE.off rfl rfl rfl ?_
  refine OpsE.ev ((by first | exact Ev.pickT rfl rfl | exact Ev.pickF rfl rfl)) rfl ?_
  refine OpsE.ev (Ev.move rfl) rfl ?_
  first | (refine OpsE.yes rfl rfl ?_; refine OpsE.ev (Ev.move rfl) rfl ?_) | refine OpsE.no rfl rfl rfl ?_ | refine OpsE.off rfl rfl rfl ?_
  first | (refine OpsE.yes rfl rfl ?_; refine OpsE.ex (Ex.call rfl Tryz.call21 (nkeys_spec w F H)) rfl ?_; (try clear H); rintro _ w ⟨rfl, H⟩) | refine OpsE.no rfl rfl rfl ?_ | refine OpsE.off rfl rfl rfl ?_
  first | (refine OpsE.yes rfl rfl ?_; refine OpsE.ev (Ev.lenSl (d := 9) rfl rfl (by kernel_rfl)) rfl ?_) | refine OpsE.no rfl rfl rfl ?_ | refine OpsE.off rfl rfl rfl ?_
  first | (refine OpsE.yes rfl rfl ?_; refine OpsE.ev (Ev.neq (r := false) rfl rfl rfl) rfl ?_) | refine OpsE.no rfl rfl rfl ?_ | refine OpsE.off rfl rfl rfl ?_
  refine OpsE.ev ((by first | exact Ev.pickT rfl rfl | exact Ev.pickF rfl rfl)) rfl ?_
  refine OpsE.ev (Ev.move rfl) rfl ?_
  first | (refine OpsE.yes rfl rfl ?_; refine OpsE.ev (Ev.move rfl) rfl ?_) | refine OpsE.no rfl rfl rfl ?_ | refine OpsE.off rfl rfl rfl ?_
  first | (refine OpsE.yes rfl rfl ?_; refine OpsE.ex (Ex.call rfl Tryz.call20 (nfree_spec w F H)) rfl ?_; (try clear H); rintro _ w ⟨rfl, H⟩) | refine OpsE.no rfl rfl rfl ?_ | refine OpsE.off rfl rfl rfl ?_
  first | (refine OpsE.yes rfl rfl ?_; refine OpsE.ev (Ev.neq (r := false) rfl rfl rfl) rfl ?_) | refine OpsE.no rfl rfl rfl ?_ | refine OpsE.off rfl rfl rfl ?_
  refine OpsE.ev ((by first | exact Ev.pickT rfl rfl | exact Ev.pickF rfl rfl)) rfl ?_
  refine OpsE.nil ?_
  repeat refine RunsE.seq ?_
  refine RunsE.no rfl ?_
  repeat (first | refine .seq ?_ | refine .skip ?_ | refine .block ?_ | refine .inBlock ?_ | refine .yes rfl ?_ | refine .no rfl ?_ | refine .exit rfl ?_)
  refine RunsE.region ?_
  refine OpsE.ev (Ev.move rfl) rfl ?_
  refine OpsE.ev (Ev.conv (k' := .u64) (c := (mm : Int)) rfl (by kernel_rfl) (by kernel_rfl) hmm) rfl ?_
  refine OpsE.ev (Ev.rem (c := (k9 : Int)) rfl rfl (by omega) (by rw [hk9]; exact qrem mm 9)) rfl ?_
  refine OpsE.ev (Ev.conv (k' := .i64) (c := (k9 : Int)) rfl (by kernel_rfl) (by kernel_rfl) (qi64 (by omega) (by omega))) rfl ?_
  refine OpsE.ev (Ev.add (c := (n : Int)) rfl rfl (by rw [qi64 (by omega) (by omega)]; omega)) rfl ?_
  refine OpsE.ev (Ev.assign rfl) rfl ?_
  refine OpsE.nil ?_
  repeat (first | refine .seq ?_ | refine .skip ?_ | refine .block ?_ | refine .inBlock ?_ | refine .yes rfl ?_ | refine .no rfl ?_ | refine .exit rfl ?_)
  refine RunsE.region ?_
  refine OpsE.ev (Ev.move rfl) rfl ?_
  refine OpsE.ev (Ev.add (c := ((n + 3 : Nat) : Int)) rfl rfl (by rw [qi64 (by omega) (by omega)]; omega)) rfl ?_
  refine OpsE.ex (Ex.call rfl Tryz.call9 (new_spec (n + 3) (by omega) (by omega) w F H)) rfl ?_; (try clear H); rintro _ w ⟨p, A, rfl, hA, H⟩
  refine OpsE.ev (Ev.move rfl) rfl ?_
  refine OpsE.ev (Ev.extract rfl rfl) rfl ?_
  refine OpsE.ev (Ev.extract rfl rfl) rfl ?_
  refine OpsE.ev (Ev.assign rfl) rfl ?_
  refine OpsE.ev (Ev.assign rfl) rfl ?_
  refine OpsE.nil ?_
  repeat (first | refine .seq ?_ | refine .skip ?_ | refine .block ?_ | refine .inBlock ?_ | refine .yes rfl ?_ | refine .no rfl ?_ | refine .exit rfl ?_)
  refine RunsE.region ?_
  refine OpsE.ev (Ev.move rfl) rfl ?_
  refine OpsE.ev (Ev.move rfl) rfl ?_
  refine OpsE.ev (Ev.buildSt (pl := [(0, 1), (1, 1)]) (zv := .agg #[.int .i64 0, .int .i64 0]) rfl (by kernel_rfl) (by kernel_rfl) rfl) rfl ?_
  refine OpsE.ex (Ex.call rfl Tryz.call11 (open_spec p 1 n (St.new (n + 3)) A rfl (by omega) (by omega) (by rw [hnl]; omega) (by simp [St.new]) w F hA H)) rfl ?_; (try clear H); rintro r w hr; rw [ho0] at hr; obtain ⟨h, _⟩ | ⟨l, s, m, o, hl, rfl, hmo, H⟩ := hr; cases h; cases hl
  refine OpsE.ev (Ev.move rfl) rfl ?_
  refine OpsE.ev (Ev.extract rfl rfl) rfl ?_
  refine OpsE.ev (Ev.extract rfl rfl) rfl ?_
  refine OpsE.ev (Ev.assign rfl) rfl ?_
  refine OpsE.ev (Ev.assign rfl) rfl ?_
  refine OpsE.nil ?_
  repeat (first | refine .seq ?_ | refine .skip ?_ | refine .block ?_ | refine .inBlock ?_ | refine .yes rfl ?_ | refine .no rfl ?_ | refine .exit rfl ?_)
  refine RunsE.region ?_
  refine OpsE.ev (Ev.move rfl) rfl ?_
  refine OpsE.ev (Ev.errNe (n := 0) rfl rfl) rfl ?_
  refine OpsE.ev (Ev.move rfl) rfl ?_
  first | (refine OpsE.yes rfl rfl ?_; refine OpsE.ev (Ev.move rfl) rfl ?_) | refine OpsE.no rfl rfl rfl ?_ | refine OpsE.off rfl rfl rfl ?_
  first | (refine OpsE.yes rfl rfl ?_; refine OpsE.ev (Ev.errNe (n := 0) rfl rfl) rfl ?_) | refine OpsE.no rfl rfl rfl ?_ | refine OpsE.off rfl rfl rfl ?_
  refine OpsE.ev ((by first | exact Ev.pickT rfl rfl | exact Ev.pickF rfl rfl)) rfl ?_
  refine OpsE.ev (Ev.move rfl) rfl ?_
  first | (refine OpsE.yes rfl rfl ?_; refine OpsE.ev (Ev.move rfl) rfl ?_) | refine OpsE.no rfl rfl rfl ?_ | refine OpsE.off rfl rfl rfl ?_
  first | (refine OpsE.yes rfl rfl ?_; refine OpsE.ev (Ev.ptrNilEq (el := 84) rfl rfl (by kernel_rfl)) rfl ?_) | refine OpsE.no rfl rfl rfl ?_ | refine OpsE.off rfl rfl rfl ?_
  refine OpsE.ev ((by first | exact Ev.pickT rfl rfl | exact Ev.pickF rfl rfl)) rfl ?_
  refine OpsE.nil ?_
  repeat refine RunsE.seq ?_
  refine RunsE.no rfl ?_
  repeat (first | refine .seq ?_ | refine .skip ?_ | refine .block ?_ | refine .inBlock ?_ | refine .yes rfl ?_ | refine .no rfl ?_ | refine .exit rfl ?_)
  refine RunsE.region ?_
  refine OpsE.ev (Ev.assign rfl) rfl ?_
  refine OpsE.nil ?_
  repeat (first | refine .seq ?_ | refine .skip ?_ | refine .block ?_ | refine .inBlock ?_ | refine .yes rfl ?_ | refine .no rfl ?_ | refine .exit rfl ?_)
  refine RunsE.region ?_
  refine OpsE.ev (Ev.assign rfl) rfl ?_
  refine OpsE.nil ?_
  have hM0 : SeM p s n F (.slice none 0 0) w := ⟨_, A, m, o, [], [], hA, One.new, hmo, .nil, H⟩
  clear H hA
  repeat refine RunsE.seq ?_
  refine RunsE.join (fun v : Value => [(8, .int .i64 (n : Int)), (9, .pointer (some ⟨p, 0, none⟩)), (13, v)])
    (fun v w => SeM p s n F v w) (fun next => ?_) ?_
  · refine RunsE.block ?_
    refine RunsE.loop (fun z : Nat × Value => [(1, .slice ax xs.length cx), (8, .int .i64 (n : Int)), (9, .pointer (some ⟨p, 0, none⟩)), (11, .pointer (some ⟨s, 0, none⟩)), (13, z.2), (14, .int .i64 (z.1 : Int))])
      (fun z w => z.1 ≤ xs.length ∧ z.1 ≤ 15 ∧ SeM p s n F z.2 w) (fun z => 15 - z.1) (0, .slice none 0 0) ⟨rfl, rfl, rfl, rfl, rfl, rfl, trivial⟩ ⟨by omega, by omega, hM0⟩ ?_
    clear hM0 w
    rintro ⟨i, v⟩ w ⟨hi, hi2, hM⟩ nextL
    simp only at hi hi2 hM
    by_cases h1 : i = xs.length
    ·
      repeat (first | refine .seq ?_ | refine .skip ?_ | refine .block ?_ | refine .inBlock ?_ | refine .yes rfl ?_ | refine .no rfl ?_ | refine .exit rfl ?_)
      refine RunsE.region ?_
      refine OpsE.ev (Ev.move rfl) rfl ?_
      refine OpsE.ev (Ev.move rfl) rfl ?_
      refine OpsE.ev (Ev.lenSl (d := 44) rfl rfl (by kernel_rfl)) rfl ?_
      refine OpsE.ev (Ev.lss (r := false) rfl rfl (decide_eq_false (by simp only; omega))) rfl ?_
      refine OpsE.ev (Ev.move rfl) rfl ?_
      first | (refine OpsE.yes rfl rfl ?_; refine OpsE.ev (Ev.move rfl) rfl ?_) | refine OpsE.no rfl rfl rfl ?_ | refine OpsE.off rfl rfl rfl ?_
      first | (refine OpsE.yes rfl rfl ?_; refine OpsE.ev (Ev.lss rfl rfl) rfl ?_) | refine OpsE.no rfl rfl rfl ?_ | refine OpsE.off rfl rfl rfl ?_
      refine OpsE.ev ((by first | exact Ev.pickT rfl rfl | exact Ev.pickF rfl rfl)) rfl ?_
      refine OpsE.nil ?_
      repeat refine RunsE.seq ?_
      refine RunsE.no rfl ?_
      refine RunsE.exit rfl ?_
      exact next v _ _ hM ⟨rfl, rfl, rfl, trivial⟩
    have hil : i < xs.length := by omega
    by_cases h2 : i = 15
    ·
      repeat (first | refine .seq ?_ | refine .skip ?_ | refine .block ?_ | refine .inBlock ?_ | refine .yes rfl ?_ | refine .no rfl ?_ | refine .exit rfl ?_)
      refine RunsE.region ?_
      refine OpsE.ev (Ev.move rfl) rfl ?_
      refine OpsE.ev (Ev.move rfl) rfl ?_
      refine OpsE.ev (Ev.lenSl (d := 44) rfl rfl (by kernel_rfl)) rfl ?_
      refine OpsE.ev (Ev.lss (r := true) rfl rfl (decide_eq_true (by simp only; omega))) rfl ?_
      refine OpsE.ev (Ev.move rfl) rfl ?_
      first | (refine OpsE.yes rfl rfl ?_; refine OpsE.ev (Ev.move rfl) rfl ?_) | refine OpsE.no rfl rfl rfl ?_ | refine OpsE.off rfl rfl rfl ?_
      first | (refine OpsE.yes rfl rfl ?_; refine OpsE.ev (Ev.lss (r := false) rfl rfl (decide_eq_false (by simp only; omega))) rfl ?_) | refine OpsE.no rfl rfl rfl ?_ | refine OpsE.off rfl rfl rfl ?_
      refine OpsE.ev ((by first | exact Ev.pickT rfl rfl | exact Ev.pickF rfl rfl)) rfl ?_
      refine OpsE.nil ?_
      repeat refine RunsE.seq ?_
      refine RunsE.no rfl ?_
      refine RunsE.exit rfl ?_
      exact next v _ _ hM ⟨rfl, rfl, rfl, trivial⟩
    clear next
    obtain ⟨st, A, m, o, l, D, hA, hO, hmo, hv, H⟩ := hM
    obtain ⟨cs, hcs⟩ : ∃ cs, xs[i]? = some cs := ⟨xs[i], List.getElem?_eq_getElem hil⟩
    obtain ⟨bl, ol, rfl, u, hat, hcl9, hels⟩ := hvx.at hcs
    rw [Nat.mul_one] at hat
    have hall := ChIn.all hels
    have hFW : ∀ z ∈ F, z ∈ ((s, shO p 1 n m 0) :: (m, o) :: (A ++ (D ++ F))) := fun z hz => .tail _ (.tail _ (List.mem_append_right _ (List.mem_append_right _ hz)))
    have helW : ElsA 3 (ChAt ((s, shO p 1 n m 0) :: (m, o) :: (A ++ (D ++ F)))) u cs := hels.sub fun _ _ _ h => (h.sub hFW).1
    have hatW : Rd ((s, shO p 1 n m 0) :: (m, o) :: (A ++ (D ++ F))) ⟨bl, ol + i, none⟩ u := hat.sub hFW
    obtain ⟨au, cu, rfl, hcu⟩ := hels.len
    repeat (first | refine .seq ?_ | refine .skip ?_ | refine .block ?_ | refine .inBlock ?_ | refine .yes rfl ?_ | refine .no rfl ?_ | refine .exit rfl ?_)
    refine RunsE.region ?_
    refine OpsE.ev (Ev.move rfl) rfl ?_
    refine OpsE.ev (Ev.move rfl) rfl ?_
    refine OpsE.ev (Ev.lenSl (d := 44) rfl rfl (by kernel_rfl)) rfl ?_
    refine OpsE.ev (Ev.lss (r := true) rfl rfl (decide_eq_true (by simp only; omega))) rfl ?_
    refine OpsE.ev (Ev.move rfl) rfl ?_
    first | (refine OpsE.yes rfl rfl ?_; refine OpsE.ev (Ev.move rfl) rfl ?_) | refine OpsE.no rfl rfl rfl ?_ | refine OpsE.off rfl rfl rfl ?_
    first | (refine OpsE.yes rfl rfl ?_; refine OpsE.ev (Ev.lss (r := true) rfl rfl (decide_eq_true (by simp only; omega))) rfl ?_) | refine OpsE.no rfl rfl rfl ?_ | refine OpsE.off rfl rfl rfl ?_
    refine OpsE.ev ((by first | exact Ev.pickT rfl rfl | exact Ev.pickF rfl rfl)) rfl ?_
    refine OpsE.nil ?_
    repeat refine RunsE.seq ?_
    refine RunsE.yes rfl ?_
    repeat (first | refine .seq ?_ | refine .skip ?_ | refine .block ?_ | refine .inBlock ?_ | refine .yes rfl ?_ | refine .no rfl ?_ | refine .exit rfl ?_)
    by_cases h3 : longM cs = true
    ·
      repeat (first | refine .seq ?_ | refine .skip ?_ | refine .block ?_ | refine .inBlock ?_ | refine .yes rfl ?_ | refine .no rfl ?_ | refine .exit rfl ?_)
      refine RunsE.region ?_
      refine OpsE.ev (Ev.move rfl) rfl ?_
      refine OpsE.ev (Ev.move rfl) rfl ?_
      refine OpsE.ev (Ev.iaSl (n := 44) (sz := 1) (m := i) (o := ol + i) rfl rfl rfl (by kernel_rfl) hil (by rw [Nat.mul_one])) rfl ?_
      refine OpsE.ev (Ev.load (v := .slice au cs.length cu) H rfl (by kernel_rfl) hatW) rfl ?_
      refine OpsE.ex (Ex.call rfl Tryz.call15 (long_spec cs _ hcl9 (fun c hc => ⟨Nat.le_trans (hall c hc).1 (by decide), Nat.le_trans (hall c hc).2 (by decide)⟩) w _ helW H)) rfl ?_; (try clear H); rintro _ w ⟨rfl, H⟩; rw [h3]
      refine OpsE.nil ?_
      repeat refine RunsE.seq ?_
      refine RunsE.yes rfl ?_
      refine RunsE.exit rfl ?_
      repeat (first | refine .seq ?_ | refine .skip ?_ | refine .block ?_ | refine .inBlock ?_ | refine .yes rfl ?_ | refine .no rfl ?_ | refine .exit rfl ?_)
      refine RunsE.region ?_
      refine OpsE.ev (Ev.move rfl) rfl ?_
      refine OpsE.ev (Ev.add rfl rfl) rfl ?_
      refine OpsE.ev (Ev.assign rfl) rfl ?_
      refine OpsE.nil ?_
      exact nextL (i + 1, v) _ _ (by simp only; omega) ⟨by simp only; omega, by simp only; omega, st, A, m, o, l, D, hA, hO, hmo, hv, H⟩ ⟨rfl, rfl, rfl, rfl, rfl, rfl, trivial⟩
    have h3' : longM cs = false := by simpa using h3
    obtain ⟨hn1, hn2⟩ := longM_no h3'
    have hbig : ∀ c ∈ cs, c.key.length ≤ 100000 ∧ c.val.length ≤ 100000 := fun c hc => ⟨Nat.le_trans (hn2 c hc).1 (by decide), Nat.le_trans (hn2 c hc).2 (by decide)⟩
    obtain ⟨e0, e1, e2, hO', hroot⟩ := hO.set (by omega) (by omega) cs
    obtain ⟨R, hR⟩ : ∃ R, R = setP st 1 n l 0 cs := ⟨_, rfl⟩
    rw [← hR] at e0 e1 e2 hO' hroot
    repeat (first | refine .seq ?_ | refine .skip ?_ | refine .block ?_ | refine .inBlock ?_ | refine .yes rfl ?_ | refine .no rfl ?_ | refine .exit rfl ?_)
    refine RunsE.region ?_
    refine OpsE.ev (Ev.move rfl) rfl ?_
    refine OpsE.ev (Ev.move rfl) rfl ?_
    refine OpsE.ev (Ev.iaSl (n := 44) (sz := 1) (m := i) (o := ol + i) rfl rfl rfl (by kernel_rfl) hil (by rw [Nat.mul_one])) rfl ?_
    refine OpsE.ev (Ev.load (v := .slice au cs.length cu) H rfl (by kernel_rfl) hatW) rfl ?_
    refine OpsE.ex (Ex.call rfl Tryz.call15 (long_spec cs _ hcl9 (fun c hc => ⟨Nat.le_trans (hall c hc).1 (by decide), Nat.le_trans (hall c hc).2 (by decide)⟩) w _ helW H)) rfl ?_; (try clear H); rintro _ w ⟨rfl, H⟩; rw [h3']
    refine OpsE.nil ?_
    repeat refine RunsE.seq ?_
    refine RunsE.no rfl ?_
    repeat (first | refine .seq ?_ | refine .skip ?_ | refine .block ?_ | refine .inBlock ?_ | refine .yes rfl ?_ | refine .no rfl ?_ | refine .exit rfl ?_)
    refine RunsE.region ?_
    refine OpsE.ev (Ev.move rfl) rfl ?_
    refine OpsE.ev (Ev.move rfl) rfl ?_
    refine OpsE.ev (Ev.move rfl) rfl ?_
    refine OpsE.ev (Ev.iaSl (n := 44) (sz := 1) (m := i) (o := ol + i) rfl rfl rfl (by kernel_rfl) hil (by rw [Nat.mul_one])) rfl ?_
    refine OpsE.ev (Ev.load (v := .slice au cs.length cu) H rfl (by kernel_rfl) hatW) rfl ?_
    refine OpsE.ex (Ex.call rfl Tryz.call17 (give_spec cs _ (by omega) w _ helW H)) rfl ?_; (try clear H); rintro vg w ⟨B, hs, H⟩; replace H : SL w ((s, shO p 1 n m 0) :: (m, o) :: (A ++ (B ++ (D ++ F)))) := H.perm (perm_of fun a => by simp only [List.count_append, List.count_cons]; omega)
    refine OpsE.ex (Ex.call rfl Tryz.call16 (set_spec s p 1 n m 0 o st l cs vg A hO.ok (by omega) (by omega) (by omega) (by rw [hO.q]; decide) (by omega) hbig w _ (hs.chAt (L := D ++ F)) hmo hA H)) rfl ?_; (try clear H); rintro _ w ⟨m', o', A', rfl, ho', hA', H⟩; rw [← hR, e1] at ho'; rw [← hR] at hA'; rw [← hR, e2] at H; rw [← hR, e0]
    refine OpsE.ev (Ev.assign rfl) rfl ?_
    refine OpsE.nil ?_
    replace H : SL w (A' ++ ((s, shO p 1 n m' 0) :: (m', o') :: (D ++ F))) := H.less B (perm_of fun a => by simp only [List.count_append, List.count_cons]; omega)
    clear helW hatW hFW
    have hDW : ∀ z ∈ D ++ F, z ∈ A' ++ ((s, shO p 1 n m' 0) :: (m', o') :: (D ++ F)) := fun z hz => List.mem_append_right _ (.tail _ (.tail _ hz))
    have hFW : ∀ z ∈ F, z ∈ A' ++ ((s, shO p 1 n m' 0) :: (m', o') :: (D ++ F)) := fun z hz => hDW z (List.mem_append_right _ hz)
    have helW : ElsA 3 (ChAt (A' ++ ((s, shO p 1 n m' 0) :: (m', o') :: (D ++ F)))) (.slice au cs.length cu) cs := hels.sub fun _ _ _ h => (h.sub hFW).1
    have hatW : Rd (A' ++ ((s, shO p 1 n m' 0) :: (m', o') :: (D ++ F))) ⟨bl, ol + i, none⟩ (.slice au cs.length cu) := hat.sub hFW
    repeat (first | refine .seq ?_ | refine .skip ?_ | refine .block ?_ | refine .inBlock ?_ | refine .yes rfl ?_ | refine .no rfl ?_ | refine .exit rfl ?_)
    refine RunsE.region ?_
    refine OpsE.ev (Ev.move rfl) rfl ?_
    refine OpsE.ev (Ev.move rfl) rfl ?_
    refine OpsE.ev (Ev.move rfl) rfl ?_
    refine OpsE.ev (Ev.move rfl) rfl ?_
    refine OpsE.ev (Ev.iaSl (n := 44) (sz := 1) (m := i) (o := ol + i) rfl rfl rfl (by kernel_rfl) hil (by rw [Nat.mul_one])) rfl ?_
    refine OpsE.ev (Ev.load (v := .slice au cs.length cu) H rfl (by kernel_rfl) hatW) rfl ?_
    refine OpsE.ex (Ex.call rfl Tryz.call18 (rset_spec l n cs v _ hO.ok (by omega) (by omega) (by omega) hbig w _ (D ++ F) hDW hv helW H)) rfl ?_; (try clear H); rintro _ w ⟨v2, B2, rfl, hv2, H⟩; replace H : SL w (A' ++ ((s, shO p 1 n m' 0) :: (m', o') :: ((B2 ++ D) ++ F))) := H.perm (perm_of fun a => by simp only [List.count_append, List.count_cons]; omega); rw [← List.append_assoc] at hv2
    refine OpsE.ev (Ev.move rfl) rfl ?_
    refine OpsE.ev (Ev.extract rfl rfl) rfl ?_
    refine OpsE.ev (Ev.extract rfl rfl) rfl ?_
    refine OpsE.ev (Ev.extract rfl rfl) rfl ?_
    refine OpsE.ev (Ev.extract rfl rfl) rfl ?_
    refine OpsE.ev (Ev.assign rfl) rfl ?_
    refine OpsE.ev (Ev.assign rfl) rfl ?_
    refine OpsE.ev (Ev.assign rfl) rfl ?_
    refine OpsE.ev (Ev.assign rfl) rfl ?_
    refine OpsE.nil ?_
    clear helW hatW hFW hDW hv hmo hA hO
    obtain ⟨D2, hD2⟩ : ∃ D2, D2 = B2 ++ D := ⟨_, rfl⟩
    rw [← hD2] at H hv2
    clear hD2
    obtain ⟨l2, hl2⟩ : ∃ l2, l2 = (setM l n cs).1 := ⟨_, rfl⟩
    rw [← hl2] at ho' hO' hroot hv2
    obtain ⟨a2, c2, rfl, hc2⟩ := hv2.len
    have hfl := (free_len hO'.ok).2
    have hrng := hO'.a.rng
    obtain ⟨X, hX⟩ : ∃ X, X = (s, shO p 1 n m' 0) :: (m', o') :: (D2 ++ F) := ⟨_, rfl⟩
    have hXs : (s, shO p 1 n m' 0) ∈ X ∧ (m', o') ∈ X := by rw [hX]; exact ⟨.head _, .tail _ (.head _)⟩
    have hvX : LsAt X (.slice a2 l2.length c2) l2 := hv2.sub fun z hz => by rw [hX]; exact .tail _ (.tail _ hz)
    have hgX : ErrIn X := by rw [hX]; exact Rd.tail (Rd.tail (Rd.right hg))
    have hbackM : ∀ {w : World}, SL w (A' ++ X) → SeM p s n F (.slice a2 l2.length c2) w := fun {w} H => ⟨R.1, A', m', o', l2, D2, hA', hO', ho', hv2, H.perm (by rw [hX]; exact perm_of fun a => by simp only [List.count_append, List.count_cons]; omega)⟩
    rw [← hX] at H
    clear hX
    repeat (first | refine .seq ?_ | refine .skip ?_ | refine .block ?_ | refine .inBlock ?_ | refine .yes rfl ?_ | refine .no rfl ?_ | refine .exit rfl ?_)
    refine RunsE.region ?_
    refine OpsE.ev (Ev.move rfl) rfl ?_
    refine OpsE.ev (Ev.assign rfl) rfl ?_
    refine OpsE.nil ?_
    repeat (first | refine .seq ?_ | refine .skip ?_ | refine .block ?_ | refine .inBlock ?_ | refine .yes rfl ?_ | refine .no rfl ?_ | refine .exit rfl ?_)
    refine RunsE.region ?_
    refine OpsE.ev (Ev.move rfl) rfl ?_
    refine OpsE.ex (Ex.call rfl Tryz.call12 (num_EV _ w _ (Rd.right hgX) H)) rfl ?_; (try clear H); rintro _ w ⟨rfl, H⟩
    refine OpsE.ev (Ev.move rfl) rfl ?_
    refine OpsE.ev (Ev.neq (r := false) rfl rfl (bne_eq_false_iff_eq.2 rfl)) rfl ?_
    refine OpsE.ev (Ev.move rfl) rfl ?_
    first | (refine OpsE.yes rfl rfl ?_; refine OpsE.ev (Ev.move rfl) rfl ?_) | refine OpsE.no rfl rfl rfl ?_ | refine OpsE.off rfl rfl rfl ?_
    first | (refine OpsE.yes rfl rfl ?_; refine OpsE.ev (Ev.move rfl) rfl ?_) | refine OpsE.no rfl rfl rfl ?_ | refine OpsE.off rfl rfl rfl ?_
    first | (refine OpsE.yes rfl rfl ?_; refine OpsE.ev (Ev.move rfl) rfl ?_) | refine OpsE.no rfl rfl rfl ?_ | refine OpsE.off rfl rfl rfl ?_
    first | (refine OpsE.yes rfl rfl ?_; refine OpsE.ex (Ex.call rfl Tryz.call14 (same_spec s p 1 n m' 0 o' l2 l2 _ hO'.ok.srt hfl (by omega) (by omega) w _ (List.mem_append_right _ hXs.1) (List.mem_append_right _ hXs.2) ho' (hvX.sub fun _ h => List.mem_append_right _ h) H)) rfl ?_; (try clear H); rintro _ w ⟨rfl, H⟩; rw [decide_eq_true rfl]) | refine OpsE.no rfl rfl rfl ?_ | refine OpsE.off rfl rfl rfl ?_
    first | (refine OpsE.yes rfl rfl ?_; refine OpsE.ev (Ev.not (r := true) rfl) rfl ?_) | refine OpsE.no rfl rfl rfl ?_ | refine OpsE.off rfl rfl rfl ?_
    refine OpsE.ev ((by first | exact Ev.pickT rfl rfl | exact Ev.pickF rfl rfl)) rfl ?_
    refine OpsE.ev (Ev.move rfl) rfl ?_
    first | (refine OpsE.yes rfl rfl ?_; refine OpsE.ev (Ev.move rfl) rfl ?_) | refine OpsE.no rfl rfl rfl ?_ | refine OpsE.off rfl rfl rfl ?_
    first | (refine OpsE.yes rfl rfl ?_; refine OpsE.ex (Ex.call rfl Tryz.call22 (loose_spec R.1 p A' w X hA' H)) rfl ?_; (try clear H); rintro _ w ⟨rfl, H⟩; rw [hO'.q]) | refine OpsE.no rfl rfl rfl ?_ | refine OpsE.off rfl rfl rfl ?_
    first | (refine OpsE.yes rfl rfl ?_; refine OpsE.ev (Ev.neq (r := false) rfl rfl rfl) rfl ?_) | refine OpsE.no rfl rfl rfl ?_ | refine OpsE.off rfl rfl rfl ?_
    refine OpsE.ev ((by first | exact Ev.pickT rfl rfl | exact Ev.pickF rfl rfl)) rfl ?_
    refine OpsE.nil ?_
    repeat refine RunsE.seq ?_
    refine RunsE.no rfl ?_
    obtain hch | hch : (setM l n cs).2.2.1 = false ∨ (setM l n cs).2.2.1 = true := by cases (setM l n cs).2.2.1 <;> simp
    · rw [hch]
      repeat (first | refine .seq ?_ | refine .skip ?_ | refine .block ?_ | refine .inBlock ?_ | refine .yes rfl ?_ | refine .no rfl ?_ | refine .exit rfl ?_)
      refine RunsE.region ?_
      refine OpsE.ev (Ev.move rfl) rfl ?_
      refine OpsE.ev (Ev.not (r := false) rfl) rfl ?_
      refine OpsE.nil ?_
      repeat refine RunsE.seq ?_
      refine RunsE.yes rfl ?_
      refine RunsE.exit rfl ?_
      repeat (first | refine .seq ?_ | refine .skip ?_ | refine .block ?_ | refine .inBlock ?_ | refine .yes rfl ?_ | refine .no rfl ?_ | refine .exit rfl ?_)
      refine RunsE.region ?_
      refine OpsE.ev (Ev.move rfl) rfl ?_
      refine OpsE.ev (Ev.add rfl rfl) rfl ?_
      refine OpsE.ev (Ev.assign rfl) rfl ?_
      refine OpsE.nil ?_
      exact nextL (i + 1, .slice a2 l2.length c2) _ _ (by simp only; omega) ⟨by simp only; omega, by simp only; omega, hbackM H⟩ ⟨rfl, rfl, rfl, rfl, rfl, rfl, trivial⟩
    rw [hch]
    have hrt := hroot hch
    have hrd1 : R.1.read 1 = (rootM l2 n, 0) := by
      have := readAt_up (st := R.1) (p := 1) (by omega) hO'.up hO'.q
      rw [hrt] at this
      exact this
    repeat (first | refine .seq ?_ | refine .skip ?_ | refine .block ?_ | refine .inBlock ?_ | refine .yes rfl ?_ | refine .no rfl ?_ | refine .exit rfl ?_)
    refine RunsE.region ?_
    refine OpsE.ev (Ev.move rfl) rfl ?_
    refine OpsE.ev (Ev.not (r := true) rfl) rfl ?_
    refine OpsE.nil ?_
    repeat refine RunsE.seq ?_
    refine RunsE.no rfl ?_
    repeat (first | refine .seq ?_ | refine .skip ?_ | refine .block ?_ | refine .inBlock ?_ | refine .yes rfl ?_ | refine .no rfl ?_ | refine .exit rfl ?_)
    refine RunsE.region ?_
    refine OpsE.ev (Ev.move rfl) rfl ?_
    refine OpsE.ex (Ex.call rfl Tryz.call23 (read_spec R.1 1 p A' (by rw [hO'.q]; decide) w X hA' H)) rfl ?_; (try clear H); rw [hrd1]; rintro _ w ⟨vr, B, rfl, hs, H⟩
    refine OpsE.ev (Ev.move rfl) rfl ?_
    refine OpsE.ev (Ev.extract rfl rfl) rfl ?_
    refine OpsE.ev (Ev.extract rfl rfl) rfl ?_
    refine OpsE.ev (Ev.assign rfl) rfl ?_
    refine OpsE.ev (Ev.assign rfl) rfl ?_
    refine OpsE.nil ?_
    obtain ⟨ar, cr, rfl⟩ := hs.len
    repeat (first | refine .seq ?_ | refine .skip ?_ | refine .block ?_ | refine .inBlock ?_ | refine .yes rfl ?_ | refine .no rfl ?_ | refine .exit rfl ?_)
    refine RunsE.drawS H [] (by kernel_rfl) ?_; (try clear H); intro w H
    refine OpsD.take 0 rfl (by kernel_rfl) H (fun w H => Ev.move rfl) rfl ?_
    refine OpsD.take 1 rfl (by kernel_rfl) H (fun w H => Ev.errNe (n := 0) rfl rfl) rfl ?_
    refine OpsD.take 2 rfl (by kernel_rfl) H (fun w H => Ev.move rfl) rfl ?_
    first | refine OpsD.takeYes 3 rfl (by kernel_rfl) rfl rfl H (fun w H => Ev.move rfl) rfl ?_ | refine OpsD.takeNo 3 rfl (by kernel_rfl) rfl rfl H rfl ?_ | refine OpsD.takeOff 3 rfl (by kernel_rfl) rfl rfl H rfl ?_
    first | refine OpsD.takeYes 4 rfl (by kernel_rfl) rfl rfl H (fun w H => Ev.inpStr H rfl hs.inp Tryz.underlying29 Tryz.underlying5 Tryz.underlying9) rfl ?_ | refine OpsD.takeNo 4 rfl (by kernel_rfl) rfl rfl H rfl ?_ | refine OpsD.takeOff 4 rfl (by kernel_rfl) rfl rfl H rfl ?_
    first | refine OpsD.takeYes 5 rfl (by kernel_rfl) rfl rfl H (fun w H => Ev.move rfl) rfl ?_ | refine OpsD.takeNo 5 rfl (by kernel_rfl) rfl rfl H rfl ?_ | refine OpsD.takeOff 5 rfl (by kernel_rfl) rfl rfl H rfl ?_
    first | refine OpsD.takeYes 6 rfl (by kernel_rfl) rfl rfl H (fun w H => Ev.move rfl) rfl ?_ | refine OpsD.takeNo 6 rfl (by kernel_rfl) rfl rfl H rfl ?_ | refine OpsD.takeOff 6 rfl (by kernel_rfl) rfl rfl H rfl ?_
    first | (refine OpsD.one 7 (by kernel_rfl) (StepD.exYes rfl rfl rfl (Ex.call rfl Tryz.call24 (rroot_spec l2 n _ (by omega) (by omega) (by omega) hO'.ok.pl w _ (hvX.sub fun _ h => List.mem_append_right _ (List.mem_append_right _ h)) H)) rfl ?_); (try clear H); rintro vq w ⟨Bq, hq, H⟩; refine ⟨(by first | exact H | exact H.drop | exact H.drop.drop | exact H.dropL | exact H.drop.dropL | exact H.dropL.drop | exact H.dropL.dropL | exact H.dropMid), ?_⟩) | refine OpsD.takeNo 7 rfl (by kernel_rfl) rfl rfl H rfl ?_ | refine OpsD.takeOff 7 rfl (by kernel_rfl) rfl rfl H rfl ?_
    first | (refine OpsD.one 8 (by kernel_rfl) (StepD.exYes rfl rfl rfl (Ev.ex (Ev.inpStr H rfl hq.inp Tryz.underlying29 Tryz.underlying5 Tryz.underlying9)) rfl ?_); rintro _ _ ⟨rfl, rfl⟩; refine ⟨(by first | exact H | exact H.drop | exact H.drop.drop | exact H.dropL | exact H.drop.dropL | exact H.dropL.drop | exact H.dropL.dropL | exact H.dropMid), ?_⟩) | refine OpsD.takeNo 8 rfl (by kernel_rfl) rfl rfl (by first | exact H | exact H.drop | exact H.drop.drop | exact H.dropL | exact H.drop.dropL | exact H.dropL.drop | exact H.dropL.dropL | exact H.dropMid) rfl ?_ | refine OpsD.takeOff 8 rfl (by kernel_rfl) rfl rfl (by first | exact H | exact H.drop | exact H.drop.drop | exact H.dropL | exact H.drop.dropL | exact H.dropL.drop | exact H.dropL.dropL | exact H.dropMid) rfl ?_
    first | refine OpsD.takeYes 9 rfl (by kernel_rfl) rfl rfl (by first | exact H | exact H.drop | exact H.drop.drop | exact H.dropL | exact H.drop.dropL | exact H.dropL.drop | exact H.dropL.dropL | exact H.dropMid) (fun w H => Ev.strNeR (cs := rootM l2 n) (bs := rootN l2 (n - 1)) (r := false) rfl rfl (decide_eq_false (by rw [rootN_eq hO'.ok]; simp))) rfl ?_ | refine OpsD.takeNo 9 rfl (by kernel_rfl) rfl rfl (by first | exact H | exact H.drop | exact H.drop.drop | exact H.dropL | exact H.drop.dropL | exact H.dropL.drop | exact H.dropL.dropL | exact H.dropMid) rfl ?_ | refine OpsD.takeOff 9 rfl (by kernel_rfl) rfl rfl (by first | exact H | exact H.drop | exact H.drop.drop | exact H.dropL | exact H.drop.dropL | exact H.dropL.drop | exact H.dropL.dropL | exact H.dropMid) rfl ?_
    refine OpsD.take 10 rfl (by kernel_rfl) (by first | exact H | exact H.drop | exact H.drop.drop | exact H.dropL | exact H.drop.dropL | exact H.dropL.drop | exact H.dropL.dropL | exact H.dropMid) (fun w H => (by first | exact Ev.pickT rfl rfl | exact Ev.pickF rfl rfl)) rfl ?_
    refine OpsD.done (by kernel_rfl) ?_
    repeat refine RunsE.seq ?_
    refine RunsE.no rfl ?_
    replace H : SL w (A' ++ X) := H.dropL.dropL
    clear hs hq
    repeat (first | refine .seq ?_ | refine .skip ?_ | refine .block ?_ | refine .inBlock ?_ | refine .yes rfl ?_ | refine .no rfl ?_ | refine .exit rfl ?_)
    refine RunsE.region ?_
    refine OpsE.ev (Ev.assign rfl) rfl ?_
    refine OpsE.nil ?_
    repeat refine RunsE.seq ?_
    refine RunsE.join (fun _ : Unit => [(1, .slice (some ⟨bl, ol, none⟩) xs.length cx), (8, .int .i64 (n : Int)), (9, .pointer (some ⟨p, 0, none⟩)), (11, .pointer (some ⟨s, 0, none⟩)), (13, .slice a2 l2.length c2), (14, .int .i64 (i : Int))])
      (fun _ w => SL w (A' ++ X)) (fun next => ?_) ?_
    · refine RunsE.block ?_
      refine RunsE.loop (fun k : Nat => [(1, .slice (some ⟨bl, ol, none⟩) xs.length cx), (8, .int .i64 (n : Int)), (9, .pointer (some ⟨p, 0, none⟩)), (11, .pointer (some ⟨s, 0, none⟩)), (13, .slice a2 l2.length c2), (14, .int .i64 (i : Int)), (22, .int .i64 (k : Int))])
        (fun k w => k ≤ l2.length ∧ SL w (A' ++ X)) (fun k => l2.length - k) 0 ⟨rfl, rfl, rfl, rfl, rfl, rfl, rfl, trivial⟩ ⟨by omega, H⟩ ?_
      clear H w
      rintro k w ⟨hk, H⟩ nextK
      by_cases h4 : k = l2.length
      ·
        repeat (first | refine .seq ?_ | refine .skip ?_ | refine .block ?_ | refine .inBlock ?_ | refine .yes rfl ?_ | refine .no rfl ?_ | refine .exit rfl ?_)
        refine RunsE.region ?_
        refine OpsE.ev (Ev.move rfl) rfl ?_
        refine OpsE.ev (Ev.move rfl) rfl ?_
        refine OpsE.ev (Ev.lenSl (d := 64) rfl rfl (by kernel_rfl)) rfl ?_
        refine OpsE.ev (Ev.lss (r := false) rfl rfl (decide_eq_false (by omega))) rfl ?_
        refine OpsE.nil ?_
        repeat refine RunsE.seq ?_
        refine RunsE.no rfl ?_
        refine RunsE.exit rfl ?_
        exact next () _ _ H ⟨rfl, rfl, rfl, rfl, rfl, rfl, trivial⟩
      clear next nextL
      have hkl : k < l2.length := by omega
      obtain ⟨y, hy⟩ : ∃ y, l2[k]? = some y := ⟨l2[k], List.getElem?_eq_getElem hkl⟩
      have hym := List.mem_of_getElem? hy
      obtain ⟨bL, oL, rfl, haty⟩ := hvX.elS gL_len hy
      have hyr := hO'.ok.rng y hym
      have hyf := hO'.ok.fit y hym
      have hyp := pageM_len y.key y.val
      have hrdk : R.1.read ((1 + y.place : Nat) : Int) = (pageM y.key y.val, 0) := by
        rw [readAt_up (st := R.1) (by omega) hO'.up hO'.q, hO'.a.leaf y hym]
      repeat (first | refine .seq ?_ | refine .skip ?_ | refine .block ?_ | refine .inBlock ?_ | refine .yes rfl ?_ | refine .no rfl ?_ | refine .exit rfl ?_)
      refine RunsE.region ?_
      refine OpsE.ev (Ev.move rfl) rfl ?_
      refine OpsE.ev (Ev.move rfl) rfl ?_
      refine OpsE.ev (Ev.lenSl (d := 64) rfl rfl (by kernel_rfl)) rfl ?_
      refine OpsE.ev (Ev.lss (r := true) rfl rfl (decide_eq_true (by omega))) rfl ?_
      refine OpsE.nil ?_
      repeat refine RunsE.seq ?_
      refine RunsE.yes rfl ?_
      repeat (first | refine .seq ?_ | refine .skip ?_ | refine .block ?_ | refine .inBlock ?_ | refine .yes rfl ?_ | refine .no rfl ?_ | refine .exit rfl ?_)
      repeat (first | refine .seq ?_ | refine .skip ?_ | refine .block ?_ | refine .inBlock ?_ | refine .yes rfl ?_ | refine .no rfl ?_ | refine .exit rfl ?_)
      refine RunsE.region ?_
      refine OpsE.ev (Ev.move rfl) rfl ?_
      refine OpsE.ev (Ev.move rfl) rfl ?_
      refine OpsE.ev (Ev.move rfl) rfl ?_
      refine OpsE.ev (Ev.iaSl (n := 64) (sz := 3) (m := k) (o := oL + k * 3) rfl rfl rfl (by kernel_rfl) hkl) rfl ?_
      refine OpsE.ev (Ev.fieldAddr (o := 2) (o' := oL + k * 3 + 2) rfl (by kernel_rfl) (by omega)) rfl ?_
      refine OpsE.ev (Ev.load (v := .int .i64 (y.place : Int)) H rfl (by kernel_rfl) (haty 2 _ rfl).right) rfl ?_
      refine OpsE.ev (Ev.add (c := ((1 + y.place : Nat) : Int)) rfl rfl (by rw [qi64 (by omega) (by omega)]; omega)) rfl ?_
      refine OpsE.ex (Ex.call rfl Tryz.call23 (read_spec R.1 ((1 + y.place : Nat) : Int) p A' (by rw [hO'.q]; decide) w X hA' H)) rfl ?_; (try clear H); rw [hrdk]; rintro _ w ⟨vr, B, rfl, hs, H⟩
      refine OpsE.ev (Ev.move rfl) rfl ?_
      refine OpsE.ev (Ev.extract rfl rfl) rfl ?_
      refine OpsE.ev (Ev.extract rfl rfl) rfl ?_
      refine OpsE.ev (Ev.assign rfl) rfl ?_
      refine OpsE.ev (Ev.assign rfl) rfl ?_
      refine OpsE.nil ?_
      obtain ⟨ar, cr, rfl⟩ := hs.len
      repeat (first | refine .seq ?_ | refine .skip ?_ | refine .block ?_ | refine .inBlock ?_ | refine .yes rfl ?_ | refine .no rfl ?_ | refine .exit rfl ?_)
      refine RunsE.drawS H [] (by kernel_rfl) ?_; (try clear H); intro w H
      refine OpsD.take 0 rfl (by kernel_rfl) H (fun w H => Ev.move rfl) rfl ?_
      refine OpsD.take 1 rfl (by kernel_rfl) H (fun w H => Ev.errNe (n := 0) rfl rfl) rfl ?_
      refine OpsD.take 2 rfl (by kernel_rfl) H (fun w H => Ev.move rfl) rfl ?_
      first | refine OpsD.takeYes 3 rfl (by kernel_rfl) rfl rfl H (fun w H => Ev.move rfl) rfl ?_ | refine OpsD.takeNo 3 rfl (by kernel_rfl) rfl rfl H rfl ?_ | refine OpsD.takeOff 3 rfl (by kernel_rfl) rfl rfl H rfl ?_
      first | refine OpsD.takeYes 4 rfl (by kernel_rfl) rfl rfl H (fun w H => Ev.inpStr H rfl hs.inp Tryz.underlying29 Tryz.underlying5 Tryz.underlying9) rfl ?_ | refine OpsD.takeNo 4 rfl (by kernel_rfl) rfl rfl H rfl ?_ | refine OpsD.takeOff 4 rfl (by kernel_rfl) rfl rfl H rfl ?_
      first | refine OpsD.takeYes 5 rfl (by kernel_rfl) rfl rfl H (fun w H => Ev.move rfl) rfl ?_ | refine OpsD.takeNo 5 rfl (by kernel_rfl) rfl rfl H rfl ?_ | refine OpsD.takeOff 5 rfl (by kernel_rfl) rfl rfl H rfl ?_
      first | refine OpsD.takeYes 6 rfl (by kernel_rfl) rfl rfl H (fun w H => Ev.move rfl) rfl ?_ | refine OpsD.takeNo 6 rfl (by kernel_rfl) rfl rfl H rfl ?_ | refine OpsD.takeOff 6 rfl (by kernel_rfl) rfl rfl H rfl ?_
      first | refine OpsD.takeYes 7 rfl (by kernel_rfl) rfl rfl H (fun w H => Ev.iaSl (n := 64) (sz := 3) (m := k) (o := oL + k * 3) rfl rfl rfl (by kernel_rfl) hkl) rfl ?_ | refine OpsD.takeNo 7 rfl (by kernel_rfl) rfl rfl H rfl ?_ | refine OpsD.takeOff 7 rfl (by kernel_rfl) rfl rfl H rfl ?_
      first | refine OpsD.takeYes 8 rfl (by kernel_rfl) rfl rfl H (fun w H => Ev.fieldAddr (o := 0) (o' := oL + k * 3 + 0) rfl (by kernel_rfl) (by omega)) rfl ?_ | refine OpsD.takeNo 8 rfl (by kernel_rfl) rfl rfl H rfl ?_ | refine OpsD.takeOff 8 rfl (by kernel_rfl) rfl rfl H rfl ?_
      first | refine OpsD.takeYes 9 rfl (by kernel_rfl) rfl rfl H (fun w H => Ev.load (v := sV y.key) H rfl (by kernel_rfl) (haty 0 _ rfl).right.right) rfl ?_ | refine OpsD.takeNo 9 rfl (by kernel_rfl) rfl rfl H rfl ?_ | refine OpsD.takeOff 9 rfl (by kernel_rfl) rfl rfl H rfl ?_
      first | refine OpsD.takeYes 10 rfl (by kernel_rfl) rfl rfl H (fun w H => Ev.move rfl) rfl ?_ | refine OpsD.takeNo 10 rfl (by kernel_rfl) rfl rfl H rfl ?_ | refine OpsD.takeOff 10 rfl (by kernel_rfl) rfl rfl H rfl ?_
      first | refine OpsD.takeYes 11 rfl (by kernel_rfl) rfl rfl H (fun w H => Ev.move rfl) rfl ?_ | refine OpsD.takeNo 11 rfl (by kernel_rfl) rfl rfl H rfl ?_ | refine OpsD.takeOff 11 rfl (by kernel_rfl) rfl rfl H rfl ?_
      first | refine OpsD.takeYes 12 rfl (by kernel_rfl) rfl rfl H (fun w H => Ev.iaSl (n := 64) (sz := 3) (m := k) (o := oL + k * 3) rfl rfl rfl (by kernel_rfl) hkl) rfl ?_ | refine OpsD.takeNo 12 rfl (by kernel_rfl) rfl rfl H rfl ?_ | refine OpsD.takeOff 12 rfl (by kernel_rfl) rfl rfl H rfl ?_
      first | refine OpsD.takeYes 13 rfl (by kernel_rfl) rfl rfl H (fun w H => Ev.fieldAddr (o := 1) (o' := oL + k * 3 + 1) rfl (by kernel_rfl) (by omega)) rfl ?_ | refine OpsD.takeNo 13 rfl (by kernel_rfl) rfl rfl H rfl ?_ | refine OpsD.takeOff 13 rfl (by kernel_rfl) rfl rfl H rfl ?_
      first | refine OpsD.takeYes 14 rfl (by kernel_rfl) rfl rfl H (fun w H => Ev.load (v := sV y.val) H rfl (by kernel_rfl) (haty 1 _ rfl).right.right) rfl ?_ | refine OpsD.takeNo 14 rfl (by kernel_rfl) rfl rfl H rfl ?_ | refine OpsD.takeOff 14 rfl (by kernel_rfl) rfl rfl H rfl ?_
      first | (refine OpsD.one 15 (by kernel_rfl) (StepD.exYes rfl rfl rfl (Ex.call rfl Tryz.call25 (rpage_spec y.key y.val (by omega) (by omega) w _ H)) rfl ?_); (try clear H); rintro vq w ⟨Bq, hq, H⟩; refine ⟨(by first | exact H | exact H.drop | exact H.drop.drop | exact H.dropL | exact H.drop.dropL | exact H.dropL.drop | exact H.dropL.dropL | exact H.dropMid), ?_⟩) | refine OpsD.takeNo 15 rfl (by kernel_rfl) rfl rfl H rfl ?_ | refine OpsD.takeOff 15 rfl (by kernel_rfl) rfl rfl H rfl ?_
      first | (refine OpsD.one 16 (by kernel_rfl) (StepD.exYes rfl rfl rfl (Ev.ex (Ev.inpStr H rfl hq.inp Tryz.underlying29 Tryz.underlying5 Tryz.underlying9)) rfl ?_); rintro _ _ ⟨rfl, rfl⟩; refine ⟨(by first | exact H | exact H.drop | exact H.drop.drop | exact H.dropL | exact H.drop.dropL | exact H.dropL.drop | exact H.dropL.dropL | exact H.dropMid), ?_⟩) | refine OpsD.takeNo 16 rfl (by kernel_rfl) rfl rfl (by first | exact H | exact H.drop | exact H.drop.drop | exact H.dropL | exact H.drop.dropL | exact H.dropL.drop | exact H.dropL.dropL | exact H.dropMid) rfl ?_ | refine OpsD.takeOff 16 rfl (by kernel_rfl) rfl rfl (by first | exact H | exact H.drop | exact H.drop.drop | exact H.dropL | exact H.drop.dropL | exact H.dropL.drop | exact H.dropL.dropL | exact H.dropMid) rfl ?_
      first | refine OpsD.takeYes 17 rfl (by kernel_rfl) rfl rfl (by first | exact H | exact H.drop | exact H.drop.drop | exact H.dropL | exact H.drop.dropL | exact H.dropL.drop | exact H.dropL.dropL | exact H.dropMid) (fun w H => Ev.strNeR (cs := pageM y.key y.val) (bs := pageM y.key y.val) (r := false) rfl rfl (decide_eq_false (by simp))) rfl ?_ | refine OpsD.takeNo 17 rfl (by kernel_rfl) rfl rfl (by first | exact H | exact H.drop | exact H.drop.drop | exact H.dropL | exact H.drop.dropL | exact H.dropL.drop | exact H.dropL.dropL | exact H.dropMid) rfl ?_ | refine OpsD.takeOff 17 rfl (by kernel_rfl) rfl rfl (by first | exact H | exact H.drop | exact H.drop.drop | exact H.dropL | exact H.drop.dropL | exact H.dropL.drop | exact H.dropL.dropL | exact H.dropMid) rfl ?_
      refine OpsD.take 18 rfl (by kernel_rfl) (by first | exact H | exact H.drop | exact H.drop.drop | exact H.dropL | exact H.drop.dropL | exact H.dropL.drop | exact H.dropL.dropL | exact H.dropMid) (fun w H => (by first | exact Ev.pickT rfl rfl | exact Ev.pickF rfl rfl)) rfl ?_
      refine OpsD.done (by kernel_rfl) ?_
      repeat refine RunsE.seq ?_
      refine RunsE.no rfl ?_
      refine RunsE.skip ?_
      refine RunsE.inBlock ?_
      repeat (first | refine .seq ?_ | refine .skip ?_ | refine .block ?_ | refine .inBlock ?_ | refine .yes rfl ?_ | refine .no rfl ?_ | refine .exit rfl ?_)
      refine RunsE.region ?_
      refine OpsE.ev (Ev.move rfl) rfl ?_
      refine OpsE.ev (Ev.add rfl rfl) rfl ?_
      refine OpsE.ev (Ev.assign rfl) rfl ?_
      refine OpsE.nil ?_
      exact nextK (k + 1) _ _ (by omega) ⟨by omega, H.dropL.dropL⟩ ⟨rfl, rfl, rfl, rfl, rfl, rfl, rfl, trivial⟩
    clear H w
    rintro _ w H
    refine RunsE.inBlock ?_
    repeat (first | refine .seq ?_ | refine .skip ?_ | refine .block ?_ | refine .inBlock ?_ | refine .yes rfl ?_ | refine .no rfl ?_ | refine .exit rfl ?_)
    refine RunsE.region ?_
    refine OpsE.ev (Ev.move rfl) rfl ?_
    refine OpsE.ev (Ev.add rfl rfl) rfl ?_
    refine OpsE.ev (Ev.assign rfl) rfl ?_
    refine OpsE.nil ?_
    exact nextL (i + 1, .slice a2 l2.length c2) _ _ (by simp only; omega) ⟨by simp only; omega, by simp only; omega, hbackM H⟩ ⟨rfl, rfl, rfl, rfl, rfl, rfl, trivial⟩
  clear hM0 w
  rintro v w ⟨st, A, m, o, l, D, hA, hO, hmo, hv, H⟩
  have hop := opened (fr := 1) hO.q hO.a hO.ok (by omega)
  have hfl := (free_len hO.ok).2
  have hrng := hO.a.rng
  replace H : SL w (A ++ ((s, shO p 1 n m 0) :: (m, o) :: (D ++ F))) := H.perm (perm_of fun a => by simp only [List.count_append, List.count_cons]; omega)
  repeat (first | refine .seq ?_ | refine .skip ?_ | refine .block ?_ | refine .inBlock ?_ | refine .yes rfl ?_ | refine .no rfl ?_ | refine .exit rfl ?_)
  refine RunsE.region ?_
  refine OpsE.ev (Ev.move rfl) rfl ?_
  refine OpsE.ev (Ev.move rfl) rfl ?_
  refine OpsE.ev (Ev.buildSt (pl := [(0, 1), (1, 1)]) (zv := .agg #[.int .i64 0, .int .i64 0]) rfl (by kernel_rfl) (by kernel_rfl) rfl) rfl ?_
  refine OpsE.ex (Ex.call rfl Tryz.call11 (open_spec p 1 n st A hO.up (by omega) (by omega) (by omega) (by rw [hO.q]; decide) w _ hA H)) rfl ?_; (try clear H); rintro r w hr; rw [hop] at hr; obtain ⟨h, _⟩ | ⟨l', u, mu, ou, hl, rfl, hou, H⟩ := hr; cases h; cases hl
  refine OpsE.ev (Ev.move rfl) rfl ?_
  refine OpsE.ev (Ev.extract rfl rfl) rfl ?_
  refine OpsE.ev (Ev.extract rfl rfl) rfl ?_
  refine OpsE.ev (Ev.assign rfl) rfl ?_
  refine OpsE.ev (Ev.assign rfl) rfl ?_
  refine OpsE.nil ?_
  have hgW : ErrIn ((u, shO p 1 n mu 0) :: (mu, ou) :: (A ++ ((s, shO p 1 n m 0) :: (m, o) :: (D ++ F)))) := Rd.tail (Rd.tail (Rd.right (Rd.tail (Rd.tail (Rd.right hg)))))
  repeat (first | refine .seq ?_ | refine .skip ?_ | refine .block ?_ | refine .inBlock ?_ | refine .yes rfl ?_ | refine .no rfl ?_ | refine .exit rfl ?_)
  refine RunsE.region ?_
  refine OpsE.ev (Ev.move rfl) rfl ?_
  refine OpsE.ev (Ev.errEq (n := 0) rfl rfl) rfl ?_
  refine OpsE.ev (Ev.move rfl) rfl ?_
  first | (refine OpsE.yes rfl rfl ?_; refine OpsE.ev (Ev.move rfl) rfl ?_) | refine OpsE.no rfl rfl rfl ?_ | refine OpsE.off rfl rfl rfl ?_
  first | (refine OpsE.yes rfl rfl ?_; refine OpsE.ev (Ev.ptrNilNe (el := 84) rfl rfl (by kernel_rfl)) rfl ?_) | refine OpsE.no rfl rfl rfl ?_ | refine OpsE.off rfl rfl rfl ?_
  refine OpsE.ev ((by first | exact Ev.pickT rfl rfl | exact Ev.pickF rfl rfl)) rfl ?_
  refine OpsE.ev (Ev.move rfl) rfl ?_
  first | (refine OpsE.yes rfl rfl ?_; refine OpsE.ev (Ev.move rfl) rfl ?_) | refine OpsE.no rfl rfl rfl ?_ | refine OpsE.off rfl rfl rfl ?_
  first | (refine OpsE.yes rfl rfl ?_; refine OpsE.ev (Ev.move rfl) rfl ?_) | refine OpsE.no rfl rfl rfl ?_ | refine OpsE.off rfl rfl rfl ?_
  first | (refine OpsE.yes rfl rfl ?_; refine OpsE.ev (Ev.move rfl) rfl ?_) | refine OpsE.no rfl rfl rfl ?_ | refine OpsE.off rfl rfl rfl ?_
  first | (refine OpsE.yes rfl rfl ?_; refine OpsE.ex (Ex.call rfl Tryz.call14 (same_spec u p 1 n mu 0 ou l l v hO.ok.srt hfl (by omega) (by omega) w _ (.head _) (.tail _ (.head _)) hou (hv.sub fun _ h => .tail _ (.tail _ (List.mem_append_right _ (.tail _ (.tail _ h))))) H)) rfl ?_; (try clear H); rintro _ w ⟨rfl, H⟩; rw [decide_eq_true rfl]) | refine OpsE.no rfl rfl rfl ?_ | refine OpsE.off rfl rfl rfl ?_
  refine OpsE.ev ((by first | exact Ev.pickT rfl rfl | exact Ev.pickF rfl rfl)) rfl ?_
  refine OpsE.ev (Ev.move rfl) rfl ?_
  first | (refine OpsE.yes rfl rfl ?_; refine OpsE.ex (Ex.call rfl Tryz.call8 (shsure_spec w _ hgW H)) rfl ?_; (try clear H); rintro _ w ⟨rfl, H⟩) | refine OpsE.no rfl rfl rfl ?_ | refine OpsE.off rfl rfl rfl ?_
  refine OpsE.ev ((by first | exact Ev.pickT rfl rfl | exact Ev.pickF rfl rfl)) rfl ?_
  refine OpsE.ev (Ev.assign rfl) rfl ?_
  refine OpsE.nil ?_
  repeat (first | refine .seq ?_ | refine .skip ?_ | refine .block ?_ | refine .inBlock ?_ | refine .yes rfl ?_ | refine .no rfl ?_ | refine .exit rfl ?_)
  exact RunsE.ret1 Tryz.func6 rfl rfl ⟨rfl, H.drop.drop.dropL.drop.drop.dropL⟩

end Go.Proofs.YtflfaiakenahlaaGreatDoor
