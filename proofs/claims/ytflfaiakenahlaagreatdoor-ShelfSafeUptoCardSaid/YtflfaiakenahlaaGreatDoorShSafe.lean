/-
  The law ShelfSafe, walked.
-/
import Derived.Test.YtflfaiakenahlaaGreatDoorShSafe0
namespace Go.Proofs.YtflfaiakenahlaaGreatDoor
open Go.Proofs.YtflfaiakenahlaaGreatDoor.V

abbrev arO : Obj := Obj.cells [Value.int .i64 0, .int .i64 12].toArray 35 (0, 0)

/-- The shelf in memory, and the document's leaves, which may lie elsewhere. -/
def SaM [Strm] (p b3 s : Nat) (F : List (Nat × Obj)) (v : Value) (w : World) : Prop := ∃ st A m o l dl D, HoldS p st A ∧ Saf st l ∧ OkL dl 12 ∧ l.map kvp = dl.map kvp ∧ Mp o (kvL l) ∧ LsAt (D ++ F) v dl ∧
  SL w (A ++ ((b3, arO) :: (s, shO p 0 12 m 0) :: (m, o) :: (D ++ F)))

set_option maxHeartbeats 8000000 in
theorem safelaw_spec [Strm] (xs : List (List Ch)) (zs ks : List Int) (vx vz vk : Value) (hkl : ks.length ≤ 1048576) (w : World) (F : List (Nat × Obj)) (hvx : ChssIn F vx xs) (hvz : IntsIn .i64 F vz zs) (hvk : IntsIn .i64 F vk ks) (hg : ErrIn F) (H : SL w F) :
    Does Tryz.prog 7 #[vx, vz, vk] w fun r w' => r = .bool true ∧ SL w' F := by
  obtain ⟨ax, cx, rfl, hcx⟩ := hvx.len
  obtain ⟨az, cz, rfl, hcz⟩ := hvz.len
  have hkw := hvk.wf
  have ho0 := opened (st := St.new 12) (fr := 0) rfl Saf.new.a Saf.new.ok (by omega)
  refine Does.intro (args := [_, _, _]) (e := [(0, _), (1, _), (2, _)]) Tryz.func7 rfl Tryz.ntmps7 rfl rfl ?_
  repeat (first | refine .seq ?_ | refine .skip ?_ | refine .block ?_ | refine .inBlock ?_ | refine .yes rfl ?_ | refine .no rfl ?_ | refine .exit rfl ?_)
  repeat (first | refine .seq ?_ | refine .skip ?_ | refine .block ?_ | refine .inBlock ?_ | refine .yes rfl ?_ | refine .no rfl ?_ | refine .exit rfl ?_)
  refine RunsE.region ?_
  refine OpsE.ev (Ev.assign rfl) rfl ?_
  refine OpsE.nil ?_
  repeat (first | refine .seq ?_ | refine .skip ?_ | refine .block ?_ | refine .inBlock ?_ | refine .yes rfl ?_ | refine .no rfl ?_ | refine .exit rfl ?_)
  refine RunsE.region ?_
  refine OpsE.ex (Ex.call rfl Tryz.call9 (new_spec 12 (by omega) (by omega) w F H)) rfl ?_; (try clear H); rintro _ w ⟨p, A, rfl, hA, H⟩
  refine OpsE.ev (Ev.move rfl) rfl ?_
  refine OpsE.ev (Ev.extract rfl rfl) rfl ?_
  refine OpsE.ev (Ev.extract rfl rfl) rfl ?_
  refine OpsE.ev (Ev.assign rfl) rfl ?_
  refine OpsE.ev (Ev.assign rfl) rfl ?_
  refine OpsE.nil ?_
  repeat (first | refine .seq ?_ | refine .skip ?_ | refine .block ?_ | refine .inBlock ?_ | refine .yes rfl ?_ | refine .no rfl ?_ | refine .exit rfl ?_)
  refine RunsE.region ?_
  refine OpsE.ev (Ev.buildSt (pl := [(0, 1), (1, 1)]) (zv := .agg #[.int .i64 0, .int .i64 0]) rfl (by kernel_rfl) (by kernel_rfl) rfl) rfl ?_
  refine OpsE.ex (Ex.alloc (zv := .agg #[.int .i64 0, .int .i64 0]) H (by kernel_rfl)) rfl ?_; (try clear H); rintro _ w ⟨b9, rfl, H⟩; simp only [Value.cells] at H
  refine OpsE.exn (Ex.storeBlk (n := 2) (vs := [.int .i64 0, .int .i64 12]) H rfl rfl (by kernel_rfl) rfl (by simp [Value.oneCell']) u0 rfl (Thaw.zero _ _)) ?_; (try clear H); intro _ w H
  refine OpsE.nil ?_
  replace H : SL w (A ++ ((b9, arO) :: F)) := H.mid
  repeat (first | refine .seq ?_ | refine .skip ?_ | refine .block ?_ | refine .inBlock ?_ | refine .yes rfl ?_ | refine .no rfl ?_ | refine .exit rfl ?_)
  refine RunsE.region ?_
  refine OpsE.ev (Ev.move rfl) rfl ?_
  refine OpsE.ev (Ev.loadBlk (n := 2) (vs := [.int .i64 0, .int .i64 12]) H rfl (by kernel_rfl) rfl (List.mem_append_right _ (.head _))) rfl ?_
  refine OpsE.ex (Ex.call rfl Tryz.call11 (open_spec p 0 12 (St.new 12) A rfl (by omega) (by omega) (by decide) (by decide) w _ hA H)) rfl ?_; (try clear H); rintro r w hr; rw [ho0] at hr; obtain ⟨h, _⟩ | ⟨l, s, m, o, hl, rfl, hmo, H⟩ := hr; cases h; cases hl
  refine OpsE.ev (Ev.move rfl) rfl ?_
  refine OpsE.ev (Ev.extract rfl rfl) rfl ?_
  refine OpsE.ev (Ev.extract rfl rfl) rfl ?_
  refine OpsE.ev (Ev.assign rfl) rfl ?_
  refine OpsE.ev (Ev.assign rfl) rfl ?_
  refine OpsE.nil ?_
  repeat (first | refine .seq ?_ | refine .skip ?_ | refine .block ?_ | refine .inBlock ?_ | refine .yes rfl ?_ | refine .no rfl ?_ | refine .exit rfl ?_)
  refine RunsE.region ?_
  refine OpsE.ev (Ev.move rfl) rfl ?_
  refine OpsE.ev (Ev.errNe (n := 0) rfl rfl) rfl ?_
  refine OpsE.ev (Ev.move rfl) rfl ?_
  first | (refine OpsE.yes rfl rfl ?_; refine OpsE.ev (Ev.move rfl) rfl ?_) | refine OpsE.no rfl rfl rfl ?_ | refine OpsE.off rfl rfl rfl ?_
  first | (refine OpsE.yes rfl rfl ?_; refine OpsE.ev (Ev.errNe (n := 0) rfl rfl) rfl ?_) | refine OpsE.no rfl rfl rfl ?_ | refine OpsE.off rfl rfl rfl ?_
  refine OpsE.ev ((by first | exact Ev.pickT rfl rfl | exact Ev.pickF rfl rfl)) rfl ?_
  refine OpsE.ev (Ev.move rfl) rfl ?_
  first | (refine OpsE.yes rfl rfl ?_; refine OpsE.ev (Ev.move rfl) rfl ?_) | refine OpsE.no rfl rfl rfl ?_ | refine OpsE.off rfl rfl rfl ?_
  first | (refine OpsE.yes rfl rfl ?_; refine OpsE.ev (Ev.ptrNilEq (el := 84) rfl rfl (by kernel_rfl)) rfl ?_) | refine OpsE.no rfl rfl rfl ?_ | refine OpsE.off rfl rfl rfl ?_
  refine OpsE.ev ((by first | exact Ev.pickT rfl rfl | exact Ev.pickF rfl rfl)) rfl ?_
  refine OpsE.nil ?_
  repeat refine RunsE.seq ?_
  refine RunsE.no rfl ?_
  repeat (first | refine .seq ?_ | refine .skip ?_ | refine .block ?_ | refine .inBlock ?_ | refine .yes rfl ?_ | refine .no rfl ?_ | refine .exit rfl ?_)
  refine RunsE.region ?_
  refine OpsE.ev (Ev.assign rfl) rfl ?_
  refine OpsE.nil ?_
  repeat (first | refine .seq ?_ | refine .skip ?_ | refine .block ?_ | refine .inBlock ?_ | refine .yes rfl ?_ | refine .no rfl ?_ | refine .exit rfl ?_)
  refine RunsE.region ?_
  refine OpsE.ev (Ev.assign rfl) rfl ?_
  refine OpsE.nil ?_
  have hM0 : SaM p b9 s F (.slice none 0 0) w := ⟨_, A, m, o, [], [], [], hA, Saf.new, OkL.nil 12, rfl, hmo, .nil, H.perm (perm_of fun a => by simp only [List.count_append, List.count_cons, List.count_nil]; omega)⟩
  clear H hA
  repeat refine RunsE.seq ?_
  refine RunsE.join (fun _ : Unit => []) (fun _ w => SL w F) (fun next => ?_) ?_
  · refine RunsE.block ?_
    refine RunsE.loop (fun z : Nat × Value × Nat => [(0, .slice ax xs.length cx), (1, .slice az zs.length cz), (2, vk), (7, .pointer (some ⟨p, 0, none⟩)), (9, .pointer (some ⟨b9, 0, none⟩)), (10, .pointer (some ⟨z.2.2, 0, none⟩)), (12, z.2.1), (13, .int .i64 (z.1 : Int))])
      (fun z w => z.1 ≤ xs.length ∧ z.1 ≤ 20 ∧ SaM p b9 z.2.2 F z.2.1 w) (fun z => 20 - z.1) (0, .slice none 0 0, s) ⟨rfl, rfl, rfl, rfl, rfl, rfl, rfl, rfl, trivial⟩ ⟨by omega, by omega, hM0⟩ ?_
    clear hM0 w hmo
    rintro ⟨i, v, s⟩ w ⟨hi, hi2, hM⟩ nextL
    simp only at hi hi2 hM
    obtain ⟨st, A, m, o, l, dl, D, hA, hS, hdok, hkv, hmo, hv, H⟩ := hM
    by_cases h1 : i = xs.length
    ·
      repeat (first | refine .seq ?_ | refine .skip ?_ | refine .block ?_ | refine .inBlock ?_ | refine .yes rfl ?_ | refine .no rfl ?_ | refine .exit rfl ?_)
      refine RunsE.region ?_
      refine OpsE.ev (Ev.move rfl) rfl ?_
      refine OpsE.ev (Ev.move rfl) rfl ?_
      refine OpsE.ev (Ev.lenSl (d := 44) rfl rfl (by kernel_rfl)) rfl ?_
      refine OpsE.ev (Ev.lss (r := false) rfl rfl (decide_eq_false (by simp only; omega))) rfl ?_
      refine OpsE.ev (Ev.move rfl) rfl ?_
      first | (refine OpsE.yes rfl rfl ?_; refine OpsE.ev (Ev.move rfl) rfl ?_) | refine OpsE.no rfl rfl rfl ?_ | refine OpsE.off rfl rfl rfl ?_
      first | (refine OpsE.yes rfl rfl ?_; refine OpsE.ev (Ev.lss rfl rfl) rfl ?_) | refine OpsE.no rfl rfl rfl ?_ | refine OpsE.off rfl rfl rfl ?_
      refine OpsE.ev ((by first | exact Ev.pickT rfl rfl | exact Ev.pickF rfl rfl)) rfl ?_
      refine OpsE.nil ?_
      repeat refine RunsE.seq ?_
      refine RunsE.no rfl ?_
      refine RunsE.exit rfl ?_
      exact next () _ _ H.dropL.drop.drop.drop.dropL trivial
    have hil : i < xs.length := by omega
    by_cases h2 : i = 20
    ·
      repeat (first | refine .seq ?_ | refine .skip ?_ | refine .block ?_ | refine .inBlock ?_ | refine .yes rfl ?_ | refine .no rfl ?_ | refine .exit rfl ?_)
      refine RunsE.region ?_
      refine OpsE.ev (Ev.move rfl) rfl ?_
      refine OpsE.ev (Ev.move rfl) rfl ?_
      refine OpsE.ev (Ev.lenSl (d := 44) rfl rfl (by kernel_rfl)) rfl ?_
      refine OpsE.ev (Ev.lss (r := true) rfl rfl (decide_eq_true (by simp only; omega))) rfl ?_
      refine OpsE.ev (Ev.move rfl) rfl ?_
      first | (refine OpsE.yes rfl rfl ?_; refine OpsE.ev (Ev.move rfl) rfl ?_) | refine OpsE.no rfl rfl rfl ?_ | refine OpsE.off rfl rfl rfl ?_
      first | (refine OpsE.yes rfl rfl ?_; refine OpsE.ev (Ev.lss (r := false) rfl rfl (decide_eq_false (by simp only; omega))) rfl ?_) | refine OpsE.no rfl rfl rfl ?_ | refine OpsE.off rfl rfl rfl ?_
      refine OpsE.ev ((by first | exact Ev.pickT rfl rfl | exact Ev.pickF rfl rfl)) rfl ?_
      refine OpsE.nil ?_
      repeat refine RunsE.seq ?_
      refine RunsE.no rfl ?_
      refine RunsE.exit rfl ?_
      exact next () _ _ H.dropL.drop.drop.drop.dropL trivial
    clear next
    obtain ⟨cs, hcs⟩ : ∃ cs, xs[i]? = some cs := ⟨xs[i], List.getElem?_eq_getElem hil⟩
    obtain ⟨bl, ol, rfl, u, hat, hcl9, hels⟩ := hvx.at hcs
    rw [Nat.mul_one] at hat
    have hall := ChIn.all hels
    obtain ⟨au, cu, rfl, hcu⟩ := hels.len
    obtain ⟨X, hX⟩ : ∃ X, X = (b9, arO) :: (s, shO p 0 12 m 0) :: (m, o) :: (D ++ F) := ⟨_, rfl⟩
    have hFX : ∀ z ∈ F, z ∈ X := fun z hz => by rw [hX]; exact .tail _ (.tail _ (.tail _ (List.mem_append_right _ hz)))
    rw [← hX] at H
    repeat (first | refine .seq ?_ | refine .skip ?_ | refine .block ?_ | refine .inBlock ?_ | refine .yes rfl ?_ | refine .no rfl ?_ | refine .exit rfl ?_)
    refine RunsE.region ?_
    refine OpsE.ev (Ev.move rfl) rfl ?_
    refine OpsE.ev (Ev.move rfl) rfl ?_
    refine OpsE.ev (Ev.lenSl (d := 44) rfl rfl (by kernel_rfl)) rfl ?_
    refine OpsE.ev (Ev.lss (r := true) rfl rfl (decide_eq_true (by simp only; omega))) rfl ?_
    refine OpsE.ev (Ev.move rfl) rfl ?_
    first | (refine OpsE.yes rfl rfl ?_; refine OpsE.ev (Ev.move rfl) rfl ?_) | refine OpsE.no rfl rfl rfl ?_ | refine OpsE.off rfl rfl rfl ?_
    first | (refine OpsE.yes rfl rfl ?_; refine OpsE.ev (Ev.lss (r := true) rfl rfl (decide_eq_true (by simp only; omega))) rfl ?_) | refine OpsE.no rfl rfl rfl ?_ | refine OpsE.off rfl rfl rfl ?_
    refine OpsE.ev ((by first | exact Ev.pickT rfl rfl | exact Ev.pickF rfl rfl)) rfl ?_
    refine OpsE.nil ?_
    repeat refine RunsE.seq ?_
    refine RunsE.yes rfl ?_
    repeat (first | refine .seq ?_ | refine .skip ?_ | refine .block ?_ | refine .inBlock ?_ | refine .yes rfl ?_ | refine .no rfl ?_ | refine .exit rfl ?_)
    by_cases h3 : longM cs = true
    ·
      repeat (first | refine .seq ?_ | refine .skip ?_ | refine .block ?_ | refine .inBlock ?_ | refine .yes rfl ?_ | refine .no rfl ?_ | refine .exit rfl ?_)
      refine RunsE.region ?_
      refine OpsE.ev (Ev.move rfl) rfl ?_
      refine OpsE.ev (Ev.move rfl) rfl ?_
      refine OpsE.ev (Ev.iaSl (n := 44) (sz := 1) (m := i) (o := ol + i) rfl rfl rfl (by kernel_rfl) hil (by rw [Nat.mul_one])) rfl ?_
      refine OpsE.ev (Ev.load (v := .slice au cs.length cu) H rfl (by kernel_rfl) (hat.sub hFX).right) rfl ?_
      refine OpsE.ex (Ex.call rfl Tryz.call15 (long_spec cs _ hcl9 (fun c hc => ⟨Nat.le_trans (hall c hc).1 (by decide), Nat.le_trans (hall c hc).2 (by decide)⟩) w _ (hels.sub fun _ _ _ h => (h.sub fun z hz => List.mem_append_right A (hFX z hz)).1) H)) rfl ?_; (try clear H); rintro _ w ⟨rfl, H⟩; rw [h3]
      refine OpsE.nil ?_
      repeat refine RunsE.seq ?_
      refine RunsE.yes rfl ?_
      refine RunsE.exit rfl ?_
      repeat (first | refine .seq ?_ | refine .skip ?_ | refine .block ?_ | refine .inBlock ?_ | refine .yes rfl ?_ | refine .no rfl ?_ | refine .exit rfl ?_)
      refine RunsE.region ?_
      refine OpsE.ev (Ev.move rfl) rfl ?_
      refine OpsE.ev (Ev.add rfl rfl) rfl ?_
      refine OpsE.ev (Ev.assign rfl) rfl ?_
      refine OpsE.nil ?_
      rw [hX] at H
      exact nextL (i + 1, v, s) _ _ (by simp only; omega) ⟨by simp only; omega, by simp only; omega, st, A, m, o, l, dl, D, hA, hS, hdok, hkv, hmo, hv, H⟩ ⟨rfl, rfl, rfl, rfl, rfl, rfl, rfl, rfl, trivial⟩
    have h3' : longM cs = false := by simpa using h3
    obtain ⟨hn1, hn2⟩ := longM_no h3'
    have hbig : ∀ c ∈ cs, c.key.length ≤ 100000 ∧ c.val.length ≤ 100000 := fun c hc => ⟨Nat.le_trans (hn2 c hc).1 (by decide), Nat.le_trans (hn2 c hc).2 (by decide)⟩
    repeat (first | refine .seq ?_ | refine .skip ?_ | refine .block ?_ | refine .inBlock ?_ | refine .yes rfl ?_ | refine .no rfl ?_ | refine .exit rfl ?_)
    refine RunsE.region ?_
    refine OpsE.ev (Ev.move rfl) rfl ?_
    refine OpsE.ev (Ev.move rfl) rfl ?_
    refine OpsE.ev (Ev.iaSl (n := 44) (sz := 1) (m := i) (o := ol + i) rfl rfl rfl (by kernel_rfl) hil (by rw [Nat.mul_one])) rfl ?_
    refine OpsE.ev (Ev.load (v := .slice au cs.length cu) H rfl (by kernel_rfl) (hat.sub hFX).right) rfl ?_
    refine OpsE.ex (Ex.call rfl Tryz.call15 (long_spec cs _ hcl9 (fun c hc => ⟨Nat.le_trans (hall c hc).1 (by decide), Nat.le_trans (hall c hc).2 (by decide)⟩) w _ (hels.sub fun _ _ _ h => (h.sub fun z hz => List.mem_append_right A (hFX z hz)).1) H)) rfl ?_; (try clear H); rintro _ w ⟨rfl, H⟩; rw [h3']
    refine OpsE.nil ?_
    repeat refine RunsE.seq ?_
    refine RunsE.no rfl ?_
    refine RunsE.skip ?_
    refine RunsE.seq ?_
    refine (RunsE.join (fun _ : Unit => [(0, .slice (some ⟨bl, ol, none⟩) xs.length cx), (1, .slice az zs.length cz), (2, vk), (7, .pointer (some ⟨p, 0, none⟩)), (9, .pointer (some ⟨b9, 0, none⟩)), (10, .pointer (some ⟨s, 0, none⟩)), (12, v), (13, .int .i64 (i : Int))])
      (fun _ w => ∃ st A, HoldS p st A ∧ Saf st l ∧ SL w (A ++ X)) (fun next => ?_) ?_)
    · by_cases h4 : i < zs.length
      case neg =>
        repeat (first | refine .seq ?_ | refine .skip ?_ | refine .block ?_ | refine .inBlock ?_ | refine .yes rfl ?_ | refine .no rfl ?_ | refine .exit rfl ?_)
        refine RunsE.region ?_
        refine OpsE.ev (Ev.move rfl) rfl ?_
        refine OpsE.ev (Ev.move rfl) rfl ?_
        refine OpsE.ev (Ev.lenSl (d := 3) rfl rfl (by kernel_rfl)) rfl ?_
        refine OpsE.ev (Ev.lss (r := false) rfl rfl (decide_eq_false (by omega))) rfl ?_
        refine OpsE.ev (Ev.move rfl) rfl ?_
        first | (refine OpsE.yes rfl rfl ?_; refine OpsE.ev (Ev.move rfl) rfl ?_) | refine OpsE.no rfl rfl rfl ?_ | refine OpsE.off rfl rfl rfl ?_
        first | (refine OpsE.yes rfl rfl ?_; refine OpsE.ev (Ev.move rfl) rfl ?_) | refine OpsE.no rfl rfl rfl ?_ | refine OpsE.off rfl rfl rfl ?_
        first | (refine OpsE.yes rfl rfl ?_; refine OpsE.ev (Ev.move rfl) rfl ?_) | refine OpsE.no rfl rfl rfl ?_ | refine OpsE.off rfl rfl rfl ?_
        first | (refine OpsE.yes rfl rfl ?_; refine OpsE.ev (Ev.iaSl (n := 3) (sz := 1) rfl rfl rfl (by kernel_rfl) (by omega)) rfl ?_) | refine OpsE.no rfl rfl rfl ?_ | refine OpsE.off rfl rfl rfl ?_
        first | (refine OpsE.yes rfl rfl ?_; refine OpsE.ev (Ev.load H rfl (by kernel_rfl) (by first | exact Rd.mk m0 rfl | exact Rd.mk m1 rfl | exact Rd.mk m2 rfl | exact Rd.mk m3 rfl | assumption)) rfl ?_) | refine OpsE.no rfl rfl rfl ?_ | refine OpsE.off rfl rfl rfl ?_
        first | (refine OpsE.yes rfl rfl ?_; refine OpsE.ev (Ev.conv (k' := .u64) rfl (by kernel_rfl) (by kernel_rfl)) rfl ?_) | refine OpsE.no rfl rfl rfl ?_ | refine OpsE.off rfl rfl rfl ?_
        first | (refine OpsE.yes rfl rfl ?_; refine OpsE.ev (Ev.rem rfl rfl (by omega)) rfl ?_) | refine OpsE.no rfl rfl rfl ?_ | refine OpsE.off rfl rfl rfl ?_
        first | (refine OpsE.yes rfl rfl ?_; refine OpsE.ev (Ev.conv (k' := .i64) rfl (by kernel_rfl) (by kernel_rfl)) rfl ?_) | refine OpsE.no rfl rfl rfl ?_ | refine OpsE.off rfl rfl rfl ?_
        first | (refine OpsE.yes rfl rfl ?_; refine OpsE.ex (Ex.call rfl Tryz.call26 (?spec)) rfl ?_; (try clear H); rintro _ w ⟨rfl, H⟩) | refine OpsE.no rfl rfl rfl ?_ | refine OpsE.off rfl rfl rfl ?_
        first | (refine OpsE.yes rfl rfl ?_; refine OpsE.ev ((?op_binOp)) rfl ?_) | refine OpsE.no rfl rfl rfl ?_ | refine OpsE.off rfl rfl rfl ?_
        refine OpsE.ev ((by first | exact Ev.pickT rfl rfl | exact Ev.pickF rfl rfl)) rfl ?_
        refine OpsE.nil ?_
        repeat refine RunsE.seq ?_
        refine RunsE.no rfl ?_
        refine RunsE.skip ?_
        exact next () _ _ ⟨st, A, hA, hS, H⟩ ⟨rfl, rfl, rfl, rfl, rfl, rfl, rfl, rfl, trivial⟩
      obtain ⟨z, hz⟩ : ∃ z, zs[i]? = some z := ⟨zs[i], List.getElem?_eq_getElem h4⟩
      obtain ⟨bz, oz, _, rfl, hzr, rfl, hzw⟩ := hvz.at hz
      obtain ⟨mm, hmm, _⟩ := u64_nat z
      obtain ⟨k9, hk9⟩ : ∃ k, k = mm % 9 := ⟨_, rfl⟩
      repeat (first | refine .seq ?_ | refine .skip ?_ | refine .block ?_ | refine .inBlock ?_ | refine .yes rfl ?_ | refine .no rfl ?_ | refine .exit rfl ?_)
      refine RunsE.region ?_
      refine OpsE.ev (Ev.move rfl) rfl ?_
      refine OpsE.ev (Ev.move rfl) rfl ?_
      refine OpsE.ev (Ev.lenSl (d := 3) rfl rfl (by kernel_rfl)) rfl ?_
      refine OpsE.ev (Ev.lss (r := true) rfl rfl (decide_eq_true (by omega))) rfl ?_
      refine OpsE.ev (Ev.move rfl) rfl ?_
      first | (refine OpsE.yes rfl rfl ?_; refine OpsE.ev (Ev.move rfl) rfl ?_) | refine OpsE.no rfl rfl rfl ?_ | refine OpsE.off rfl rfl rfl ?_
      first | (refine OpsE.yes rfl rfl ?_; refine OpsE.ev (Ev.move rfl) rfl ?_) | refine OpsE.no rfl rfl rfl ?_ | refine OpsE.off rfl rfl rfl ?_
      first | (refine OpsE.yes rfl rfl ?_; refine OpsE.ev (Ev.move rfl) rfl ?_) | refine OpsE.no rfl rfl rfl ?_ | refine OpsE.off rfl rfl rfl ?_
      first | (refine OpsE.yes rfl rfl ?_; refine OpsE.ev (Ev.iaSl (n := 3) (sz := 1) (m := i) (o := oz + i) rfl rfl rfl (by kernel_rfl) h4 (by rw [Nat.mul_one])) rfl ?_) | refine OpsE.no rfl rfl rfl ?_ | refine OpsE.off rfl rfl rfl ?_
      first | (refine OpsE.yes rfl rfl ?_; refine OpsE.ev (Ev.load (v := .int .i64 z) H rfl (by kernel_rfl) (hzr.sub hFX).right) rfl ?_) | refine OpsE.no rfl rfl rfl ?_ | refine OpsE.off rfl rfl rfl ?_
      first | (refine OpsE.yes rfl rfl ?_; refine OpsE.ev (Ev.conv (k' := .u64) (c := (mm : Int)) rfl (by kernel_rfl) (by kernel_rfl) hmm) rfl ?_) | refine OpsE.no rfl rfl rfl ?_ | refine OpsE.off rfl rfl rfl ?_
      first | (refine OpsE.yes rfl rfl ?_; refine OpsE.ev (Ev.rem (c := (k9 : Int)) rfl rfl (by omega) (by rw [hk9]; exact qrem mm 9)) rfl ?_) | refine OpsE.no rfl rfl rfl ?_ | refine OpsE.off rfl rfl rfl ?_
      first | (refine OpsE.yes rfl rfl ?_; refine OpsE.ev (Ev.conv (k' := .i64) (c := (k9 : Int)) rfl (by kernel_rfl) (by kernel_rfl) (qi64 (by omega) (by omega))) rfl ?_) | refine OpsE.no rfl rfl rfl ?_ | refine OpsE.off rfl rfl rfl ?_
      first | (refine OpsE.yes rfl rfl ?_; refine OpsE.ex (Ex.call rfl Tryz.call26 (arm_spec st k9 (by omega) p A w X hA H)) rfl ?_; (try clear H); rintro _ w ⟨A, rfl, hA, H⟩) | refine OpsE.no rfl rfl rfl ?_ | refine OpsE.off rfl rfl rfl ?_
      first | (refine OpsE.yes rfl rfl ?_; refine OpsE.ev (Ev.errNe (n := 0) rfl rfl) rfl ?_) | refine OpsE.no rfl rfl rfl ?_ | refine OpsE.off rfl rfl rfl ?_
      refine OpsE.ev ((by first | exact Ev.pickT rfl rfl | exact Ev.pickF rfl rfl)) rfl ?_
      refine OpsE.nil ?_
      repeat refine RunsE.seq ?_
      refine RunsE.no rfl ?_
      refine RunsE.skip ?_
      exact next () _ _ ⟨_, A, hA, hS.arm k9, H⟩ ⟨rfl, rfl, rfl, rfl, rfl, rfl, rfl, rfl, trivial⟩
    clear H hA hS st A w
    rintro _ w ⟨st, A, hA, hS, H⟩
    have hcase := hS.set cs
    have hQn := setP_Qn (st := st) (fr := 0) (count := 12) (l := l) (cs := cs)
    rw [hS.q, List.length_nil] at hQn
    obtain ⟨hke, hkm⟩ := set_kvp hkv 12 cs
    obtain ⟨R, hR⟩ : ∃ R, R = setP st 0 12 l 0 cs := ⟨_, rfl⟩
    rw [← hR] at hcase hQn
    repeat (first | refine .seq ?_ | refine .skip ?_ | refine .block ?_ | refine .inBlock ?_ | refine .yes rfl ?_ | refine .no rfl ?_ | refine .exit rfl ?_)
    refine RunsE.region ?_
    refine OpsE.ev (Ev.move rfl) rfl ?_
    refine OpsE.ev (Ev.move rfl) rfl ?_
    refine OpsE.ev (Ev.move rfl) rfl ?_
    refine OpsE.ev (Ev.iaSl (n := 44) (sz := 1) (m := i) (o := ol + i) rfl rfl rfl (by kernel_rfl) hil (by rw [Nat.mul_one])) rfl ?_
    refine OpsE.ev (Ev.load (v := .slice au cs.length cu) H rfl (by kernel_rfl) (hat.sub hFX).right) rfl ?_
    refine OpsE.ex (Ex.call rfl Tryz.call17 (give_spec cs _ (by omega) w _ (hels.sub fun _ _ _ h => (h.sub fun z hz => List.mem_append_right A (hFX z hz)).1) H)) rfl ?_; (try clear H); rintro vg w ⟨B, hs, H⟩; replace H : SL w ((s, shO p 0 12 m 0) :: (m, o) :: (A ++ (B ++ ((b9, arO) :: (D ++ F))))) := H.perm (by rw [hX]; exact perm_of fun a => by simp only [List.count_append, List.count_cons]; omega)
    refine OpsE.ex (Ex.call rfl Tryz.call16 (set_spec s p 0 12 m 0 o st l cs vg A hS.ok (by omega) (by omega) (by omega) (by rw [hS.q]; decide) (by omega) hbig w _ (hs.chAt (L := (b9, arO) :: (D ++ F))) hmo hA H)) rfl ?_; (try clear H); rintro _ w ⟨m', o', A', rfl, ho', hA', H⟩; rw [← hR] at ho' hA' H; rw [← hR]
    refine OpsE.ev (Ev.assign rfl) rfl ?_
    refine OpsE.nil ?_
    replace H : SL w (A' ++ ((b9, arO) :: (s, shO p 0 12 m' R.2.2.1) :: (m', o') :: (D ++ F))) := H.less B (perm_of fun a => by simp only [List.count_append, List.count_cons]; omega)
    clear hFX hX X hs
    have hDW : ∀ z ∈ D ++ F, z ∈ A' ++ ((b9, arO) :: (s, shO p 0 12 m' R.2.2.1) :: (m', o') :: (D ++ F)) := fun z hz => List.mem_append_right _ (.tail _ (.tail _ (.tail _ hz)))
    have hFW : ∀ z ∈ F, z ∈ A' ++ ((b9, arO) :: (s, shO p 0 12 m' R.2.2.1) :: (m', o') :: (D ++ F)) := fun z hz => hDW z (List.mem_append_right _ hz)
    have helW : ElsA 3 (ChAt (A' ++ ((b9, arO) :: (s, shO p 0 12 m' R.2.2.1) :: (m', o') :: (D ++ F)))) (.slice au cs.length cu) cs := hels.sub fun _ _ _ h => (h.sub hFW).1
    have hatW : Rd (A' ++ ((b9, arO) :: (s, shO p 0 12 m' R.2.2.1) :: (m', o') :: (D ++ F))) ⟨bl, ol + i, none⟩ (.slice au cs.length cu) := hat.sub hFW
    repeat (first | refine .seq ?_ | refine .skip ?_ | refine .block ?_ | refine .inBlock ?_ | refine .yes rfl ?_ | refine .no rfl ?_ | refine .exit rfl ?_)
    refine RunsE.region ?_
    refine OpsE.ev (Ev.move rfl) rfl ?_
    refine OpsE.ev (Ev.move rfl) rfl ?_
    refine OpsE.ev (Ev.move rfl) rfl ?_
    refine OpsE.ev (Ev.iaSl (n := 44) (sz := 1) (m := i) (o := ol + i) rfl rfl rfl (by kernel_rfl) hil (by rw [Nat.mul_one])) rfl ?_
    refine OpsE.ev (Ev.load (v := .slice au cs.length cu) H rfl (by kernel_rfl) hatW) rfl ?_
    refine OpsE.ex (Ex.call rfl Tryz.call18 (rset_spec dl 12 cs v _ hdok (by omega) (by omega) (by omega) hbig w _ (D ++ F) hDW hv helW H)) rfl ?_; (try clear H); rintro _ w ⟨v2, B2, rfl, hv2, H⟩; replace H : SL w (A' ++ ((b9, arO) :: (s, shO p 0 12 m' R.2.2.1) :: (m', o') :: ((B2 ++ D) ++ F))) := H.perm (perm_of fun a => by simp only [List.count_append, List.count_cons]; omega); rw [← List.append_assoc] at hv2
    refine OpsE.ev (Ev.move rfl) rfl ?_
    refine OpsE.ev (Ev.extract rfl rfl) rfl ?_
    refine OpsE.ev (Ev.extract rfl rfl) rfl ?_
    refine OpsE.ev (Ev.extract rfl rfl) rfl ?_
    refine OpsE.ev (Ev.extract rfl rfl) rfl ?_
    refine OpsE.ev (Ev.assign rfl) rfl ?_
    refine OpsE.ev (Ev.assign rfl) rfl ?_
    refine OpsE.ev (Ev.assign rfl) rfl ?_
    refine OpsE.ev (Ev.assign rfl) rfl ?_
    refine OpsE.nil ?_
    clear helW hatW hFW hDW hmo hA
    have hv1 : LsAt ((B2 ++ D) ++ F) v dl := hv.sub fun z hz => by rw [List.append_assoc]; exact List.mem_append_right _ hz
    obtain ⟨D2, hD2⟩ : ∃ D2, D2 = B2 ++ D := ⟨_, rfl⟩
    rw [← hD2] at H hv2 hv1
    clear hD2 hv
    have hdok2 : OkL (setM dl 12 cs).1 12 := set_ok hdok
    have hdl1 := (free_len hdok).2
    have hdl2 := (free_len hdok2).2
    have hgW : ∀ (A : List (Nat × Obj)) (x y z : Nat × Obj), ErrIn (A ++ (x :: y :: z :: (D2 ++ F))) := fun _ _ _ _ => Rd.right (Rd.tail (Rd.tail (Rd.tail (Rd.right hg))))
    rcases hcase with ⟨d1, d2, d3, d4, d5⟩ | ⟨d1, d2, d3, d4, d5⟩
    · rw [d3] at H
      rw [d2] at ho'
      rw [d1, hke]
      repeat (first | refine .seq ?_ | refine .skip ?_ | refine .block ?_ | refine .inBlock ?_ | refine .yes rfl ?_ | refine .no rfl ?_ | refine .exit rfl ?_)
      refine RunsE.region ?_
      refine OpsE.ev (Ev.move rfl) rfl ?_
      refine OpsE.ex (Ex.call rfl Tryz.call27 (down_spec R.1 p A' w _ hA' H)) rfl ?_; (try clear H); rintro _ w ⟨rfl, H⟩; rw [d4]
      refine OpsE.ev (Ev.not (r := false) rfl) rfl ?_
      refine OpsE.nil ?_
      repeat refine RunsE.seq ?_
      refine RunsE.yes rfl ?_
      repeat (first | refine .seq ?_ | refine .skip ?_ | refine .block ?_ | refine .inBlock ?_ | refine .yes rfl ?_ | refine .no rfl ?_ | refine .exit rfl ?_)
      refine RunsE.region ?_
      refine OpsE.ev (Ev.move rfl) rfl ?_
      refine OpsE.ex (Ex.call rfl Tryz.call12 (num_EV _ w _ (hgW _ _ _ _) H)) rfl ?_; (try clear H); rintro _ w ⟨rfl, H⟩
      refine OpsE.ev (Ev.move rfl) rfl ?_
      refine OpsE.ev (Ev.neq (r := false) rfl rfl (bne_eq_false_iff_eq.2 rfl)) rfl ?_
      refine OpsE.nil ?_
      repeat refine RunsE.seq ?_
      refine RunsE.no rfl ?_
      repeat (first | refine .seq ?_ | refine .skip ?_ | refine .block ?_ | refine .inBlock ?_ | refine .yes rfl ?_ | refine .no rfl ?_ | refine .exit rfl ?_)
      refine RunsE.region ?_
      refine OpsE.ev (Ev.move rfl) rfl ?_
      refine OpsE.ev (Ev.assign rfl) rfl ?_
      refine OpsE.nil ?_
      refine RunsE.exit rfl ?_
      repeat (first | refine .seq ?_ | refine .skip ?_ | refine .block ?_ | refine .inBlock ?_ | refine .yes rfl ?_ | refine .no rfl ?_ | refine .exit rfl ?_)
      refine RunsE.region ?_
      refine OpsE.ev (Ev.move rfl) rfl ?_
      refine OpsE.ev (Ev.add rfl rfl) rfl ?_
      refine OpsE.ev (Ev.assign rfl) rfl ?_
      refine OpsE.nil ?_
      exact nextL (i + 1, v2, s) _ _ (by simp only; omega) ⟨by simp only; omega, by simp only; omega, R.1, A', m', o', _, _, D2, hA', d5, hdok2, hkm, ho', hv2, H⟩ ⟨rfl, rfl, rfl, rfl, rfl, rfl, rfl, rfl, trivial⟩
    rw [d3] at H
    rw [d2] at ho'
    rw [d1]
    obtain ⟨l', hl', hS'⟩ := d5 (fun i => ks.contains (i : Int))
    have hop := opened (fr := 0) hS'.q hS'.a hS'.ok (by omega)
    have hfl' := (free_len hS'.ok).2
    have hrng' := hS'.a.rng
    repeat (first | refine .seq ?_ | refine .skip ?_ | refine .block ?_ | refine .inBlock ?_ | refine .yes rfl ?_ | refine .no rfl ?_ | refine .exit rfl ?_)
    refine RunsE.region ?_
    refine OpsE.ev (Ev.move rfl) rfl ?_
    refine OpsE.ex (Ex.call rfl Tryz.call27 (down_spec R.1 p A' w _ hA' H)) rfl ?_; (try clear H); rintro _ w ⟨rfl, H⟩; rw [d4]
    refine OpsE.ev (Ev.not (r := true) rfl) rfl ?_
    refine OpsE.nil ?_
    repeat refine RunsE.seq ?_
    refine RunsE.no rfl ?_
    repeat (first | refine .seq ?_ | refine .skip ?_ | refine .block ?_ | refine .inBlock ?_ | refine .yes rfl ?_ | refine .no rfl ?_ | refine .exit rfl ?_)
    refine RunsE.region ?_
    refine OpsE.ev (Ev.move rfl) rfl ?_
    refine OpsE.ex (Ex.call rfl Tryz.call12 (num_EV 13 w _ (hgW _ _ _ _) H)) rfl ?_; (try clear H); rintro _ w ⟨rfl, H⟩; replace H : SL w ((s, shO p 0 12 m' 13) :: (m', o') :: (A' ++ ((b9, arO) :: (D2 ++ F)))) := H.perm (perm_of fun a => by simp only [List.count_append, List.count_cons]; omega)
    refine OpsE.ev (Ev.neq (r := false) rfl rfl rfl) rfl ?_
    refine OpsE.ev (Ev.move rfl) rfl ?_
    first | (refine OpsE.yes rfl rfl ?_; refine OpsE.ev (Ev.move rfl) rfl ?_) | refine OpsE.no rfl rfl rfl ?_ | refine OpsE.off rfl rfl rfl ?_
    first | (refine OpsE.yes rfl rfl ?_; refine OpsE.ex (Ex.call rfl Tryz.call16 (set_spec s p 0 12 m' 13 o' R.1 l [] (.slice none 0 0) A' hS.ok (by omega) (by omega) (by omega) (by omega) (by decide) (fun c hc => by cases hc) w _ .nil ho' hA' H)) rfl ?_; (try clear H); rintro _ w ⟨m2, o2, A2, rfl, ho2, hA2, H⟩; rw [setP_dead] at ho2 hA2 H; rw [setP_dead]; replace H : SL w (A2 ++ ((b9, arO) :: (s, shO p 0 12 m2 13) :: (m2, o2) :: (D2 ++ F))) := H.perm (perm_of fun a => by simp only [List.count_append, List.count_cons]; omega)) | refine OpsE.no rfl rfl rfl ?_ | refine OpsE.off rfl rfl rfl ?_
    first | (refine OpsE.yes rfl rfl ?_; refine OpsE.ex (Ex.call rfl Tryz.call12 (num_EV 13 w _ (hgW _ _ _ _) H)) rfl ?_; (try clear H); rintro _ w ⟨rfl, H⟩) | refine OpsE.no rfl rfl rfl ?_ | refine OpsE.off rfl rfl rfl ?_
    first | (refine OpsE.yes rfl rfl ?_; refine OpsE.ev (Ev.neq (r := false) rfl rfl rfl) rfl ?_) | refine OpsE.no rfl rfl rfl ?_ | refine OpsE.off rfl rfl rfl ?_
    refine OpsE.ev ((by first | exact Ev.pickT rfl rfl | exact Ev.pickF rfl rfl)) rfl ?_
    refine OpsE.nil ?_
    repeat refine RunsE.seq ?_
    refine RunsE.no rfl ?_
    clear ho' hA'
    repeat (first | refine .seq ?_ | refine .skip ?_ | refine .block ?_ | refine .inBlock ?_ | refine .yes rfl ?_ | refine .no rfl ?_ | refine .exit rfl ?_)
    refine RunsE.region ?_
    refine OpsE.ev (Ev.move rfl) rfl ?_
    refine OpsE.ev (Ev.move rfl) rfl ?_
    refine OpsE.ex (Ex.call rfl Tryz.call29 (shown_spec ks _ (by omega) w _ (Els.sub hvk (fun _ h => List.mem_append_right _ (.tail _ (.tail _ (.tail _ (List.mem_append_right _ h))))) (fun _ _ h => h)) H)) rfl ?_; (try clear H); rintro vo w ⟨Bo, hso, H⟩; replace H : SL w (A2 ++ (Bo ++ ((b9, arO) :: (s, shO p 0 12 m2 13) :: (m2, o2) :: (D2 ++ F)))) := H.perm (perm_of fun a => by simp only [List.count_append, List.count_cons]; omega)
    refine OpsE.ex (Ex.call rfl Tryz.call28 (start_spec R.1 ks vo p A2 (by omega) (by omega) w _ hA2 (hso.ints hkw) H)) rfl ?_; (try clear H); rintro _ w ⟨A3, rfl, hA3, H⟩; replace H : SL w (A3 ++ ((b9, arO) :: (D2 ++ F))) := H.less (Bo ++ [(s, shO p 0 12 m2 13), (m2, o2)]) (perm_of fun a => by simp only [List.count_append, List.count_cons, List.count_nil]; omega)
    refine OpsE.nil ?_
    repeat (first | refine .seq ?_ | refine .skip ?_ | refine .block ?_ | refine .inBlock ?_ | refine .yes rfl ?_ | refine .no rfl ?_ | refine .exit rfl ?_)
    refine RunsE.region ?_
    refine OpsE.ev (Ev.move rfl) rfl ?_
    refine OpsE.ev (Ev.loadBlk (n := 2) (vs := [.int .i64 0, .int .i64 12]) H rfl (by kernel_rfl) rfl (List.mem_append_right _ (.head _))) rfl ?_
    refine OpsE.ex (Ex.call rfl Tryz.call11 (open_spec p 0 12 _ A3 hS'.up (by omega) (by omega) (by omega) (by rw [hS'.q]; decide) w _ hA3 H)) rfl ?_; (try clear H); rintro r w hr; rw [hop] at hr; obtain ⟨h, _⟩ | ⟨l'', t, mt, ot, hl, rfl, hot, H⟩ := hr; cases h; cases hl; replace H : SL w (A3 ++ ((b9, arO) :: (t, shO p 0 12 mt 0) :: (mt, ot) :: (D2 ++ F))) := H.perm (perm_of fun a => by simp only [List.count_append, List.count_cons]; omega)
    refine OpsE.ev (Ev.move rfl) rfl ?_
    refine OpsE.ev (Ev.extract rfl rfl) rfl ?_
    refine OpsE.ev (Ev.extract rfl rfl) rfl ?_
    refine OpsE.ev (Ev.assign rfl) rfl ?_
    refine OpsE.ev (Ev.assign rfl) rfl ?_
    refine OpsE.nil ?_
    have ht1 : (t, shO p 0 12 mt 0) ∈ A3 ++ ((b9, arO) :: (t, shO p 0 12 mt 0) :: (mt, ot) :: (D2 ++ F)) := List.mem_append_right _ (.tail _ (.head _))
    have ht2 : (mt, ot) ∈ A3 ++ ((b9, arO) :: (t, shO p 0 12 mt 0) :: (mt, ot) :: (D2 ++ F)) := List.mem_append_right _ (.tail _ (.tail _ (.head _)))
    have htD : ∀ z ∈ D2 ++ F, z ∈ A3 ++ ((b9, arO) :: (t, shO p 0 12 mt 0) :: (mt, ot) :: (D2 ++ F)) := fun z hz => List.mem_append_right _ (.tail _ (.tail _ (.tail _ hz)))
    repeat (first | refine .seq ?_ | refine .skip ?_ | refine .block ?_ | refine .inBlock ?_ | refine .yes rfl ?_ | refine .no rfl ?_ | refine .exit rfl ?_)
    refine RunsE.region ?_
    refine OpsE.ev (Ev.move rfl) rfl ?_
    refine OpsE.ev (Ev.errNe (n := 0) rfl rfl) rfl ?_
    refine OpsE.ev (Ev.move rfl) rfl ?_
    first | (refine OpsE.yes rfl rfl ?_; refine OpsE.ev (Ev.move rfl) rfl ?_) | refine OpsE.no rfl rfl rfl ?_ | refine OpsE.off rfl rfl rfl ?_
    first | (refine OpsE.yes rfl rfl ?_; refine OpsE.ev (Ev.ptrNilEq (el := 84) rfl rfl (by kernel_rfl)) rfl ?_) | refine OpsE.no rfl rfl rfl ?_ | refine OpsE.off rfl rfl rfl ?_
    refine OpsE.ev ((by first | exact Ev.pickT rfl rfl | exact Ev.pickF rfl rfl)) rfl ?_
    refine OpsE.nil ?_
    repeat refine RunsE.seq ?_
    refine RunsE.no rfl ?_
    by_cases hk2 : l'.map kvp = dl.map kvp
    ·
      repeat (first | refine .seq ?_ | refine .skip ?_ | refine .block ?_ | refine .inBlock ?_ | refine .yes rfl ?_ | refine .no rfl ?_ | refine .exit rfl ?_)
      refine RunsE.region ?_
      refine OpsE.ev (Ev.move rfl) rfl ?_
      refine OpsE.ev (Ev.move rfl) rfl ?_
      refine OpsE.ex (Ex.call rfl Tryz.call14 (same_spec t p 0 12 mt 0 ot l' dl v hS'.ok.srt hfl' (by omega) (by omega) w _ ht1 ht2 hot (hv1.sub htD) H)) rfl ?_; (try clear H); rintro _ w ⟨rfl, H⟩; rw [decide_eq_true hk2]
      refine OpsE.ev (Ev.not (r := true) rfl) rfl ?_
      refine OpsE.nil ?_
      repeat refine RunsE.seq ?_
      refine RunsE.no rfl ?_
      repeat (first | refine .seq ?_ | refine .skip ?_ | refine .block ?_ | refine .inBlock ?_ | refine .yes rfl ?_ | refine .no rfl ?_ | refine .exit rfl ?_)
      refine RunsE.region ?_
      refine OpsE.ev (Ev.move rfl) rfl ?_
      refine OpsE.ev (Ev.assign rfl) rfl ?_
      refine OpsE.nil ?_
      refine RunsE.inBlock ?_
      repeat (first | refine .seq ?_ | refine .skip ?_ | refine .block ?_ | refine .inBlock ?_ | refine .yes rfl ?_ | refine .no rfl ?_ | refine .exit rfl ?_)
      refine RunsE.region ?_
      refine OpsE.ev (Ev.move rfl) rfl ?_
      refine OpsE.ev (Ev.add rfl rfl) rfl ?_
      refine OpsE.ev (Ev.assign rfl) rfl ?_
      refine OpsE.nil ?_
      exact nextL (i + 1, v, t) _ _ (by simp only; omega) ⟨by simp only; omega, by simp only; omega, _, A3, mt, ot, l', dl, D2, hA3, hS', hdok, hk2, hot, hv1, H⟩ ⟨rfl, rfl, rfl, rfl, rfl, rfl, rfl, rfl, trivial⟩
    have hk3 : l'.map kvp = (setM dl 12 cs).1.map kvp := by
      rcases hl' with rfl | rfl
      · exact absurd hkv hk2
      · exact hkm
    repeat (first | refine .seq ?_ | refine .skip ?_ | refine .block ?_ | refine .inBlock ?_ | refine .yes rfl ?_ | refine .no rfl ?_ | refine .exit rfl ?_)
    refine RunsE.region ?_
    refine OpsE.ev (Ev.move rfl) rfl ?_
    refine OpsE.ev (Ev.move rfl) rfl ?_
    refine OpsE.ex (Ex.call rfl Tryz.call14 (same_spec t p 0 12 mt 0 ot l' dl v hS'.ok.srt hfl' (by omega) (by omega) w _ ht1 ht2 hot (hv1.sub htD) H)) rfl ?_; (try clear H); rintro _ w ⟨rfl, H⟩; rw [decide_eq_false hk2]
    refine OpsE.ev (Ev.not (r := false) rfl) rfl ?_
    refine OpsE.nil ?_
    repeat refine RunsE.seq ?_
    refine RunsE.yes rfl ?_
    repeat (first | refine .seq ?_ | refine .skip ?_ | refine .block ?_ | refine .inBlock ?_ | refine .yes rfl ?_ | refine .no rfl ?_ | refine .exit rfl ?_)
    refine RunsE.region ?_
    refine OpsE.ev (Ev.move rfl) rfl ?_
    refine OpsE.ev (Ev.move rfl) rfl ?_
    refine OpsE.ex (Ex.call rfl Tryz.call14 (same_spec t p 0 12 mt 0 ot l' (setM dl 12 cs).1 v2 hS'.ok.srt hfl' (by omega) (by omega) w _ ht1 ht2 hot (hv2.sub htD) H)) rfl ?_; (try clear H); rintro _ w ⟨rfl, H⟩; rw [decide_eq_true hk3]
    refine OpsE.ev (Ev.not (r := true) rfl) rfl ?_
    refine OpsE.nil ?_
    repeat refine RunsE.seq ?_
    refine RunsE.no rfl ?_
    repeat (first | refine .seq ?_ | refine .skip ?_ | refine .block ?_ | refine .inBlock ?_ | refine .yes rfl ?_ | refine .no rfl ?_ | refine .exit rfl ?_)
    refine RunsE.region ?_
    refine OpsE.ev (Ev.move rfl) rfl ?_
    refine OpsE.ev (Ev.assign rfl) rfl ?_
    refine OpsE.nil ?_
    repeat (first | refine .seq ?_ | refine .skip ?_ | refine .block ?_ | refine .inBlock ?_ | refine .yes rfl ?_ | refine .no rfl ?_ | refine .exit rfl ?_)
    refine RunsE.region ?_
    refine OpsE.ev (Ev.move rfl) rfl ?_
    refine OpsE.ev (Ev.assign rfl) rfl ?_
    refine OpsE.nil ?_
    refine RunsE.inBlock ?_
    repeat (first | refine .seq ?_ | refine .skip ?_ | refine .block ?_ | refine .inBlock ?_ | refine .yes rfl ?_ | refine .no rfl ?_ | refine .exit rfl ?_)
    refine RunsE.region ?_
    refine OpsE.ev (Ev.move rfl) rfl ?_
    refine OpsE.ev (Ev.add rfl rfl) rfl ?_
    refine OpsE.ev (Ev.assign rfl) rfl ?_
    refine OpsE.nil ?_
    exact nextL (i + 1, v2, t) _ _ (by simp only; omega) ⟨by simp only; omega, by simp only; omega, _, A3, mt, ot, l', _, D2, hA3, hS', hdok2, hk3, hot, hv2, H⟩ ⟨rfl, rfl, rfl, rfl, rfl, rfl, rfl, rfl, trivial⟩
  clear hM0 w
  rintro _ w H
  repeat (first | refine .seq ?_ | refine .skip ?_ | refine .block ?_ | refine .inBlock ?_ | refine .yes rfl ?_ | refine .no rfl ?_ | refine .exit rfl ?_)
  refine RunsE.region ?_
  refine OpsE.ex (Ex.call rfl Tryz.call8 (shsure_spec w _ hg H)) rfl ?_; (try clear H); rintro _ w ⟨rfl, H⟩
  refine OpsE.ev (Ev.assign rfl) rfl ?_
  refine OpsE.nil ?_
  repeat (first | refine .seq ?_ | refine .skip ?_ | refine .block ?_ | refine .inBlock ?_ | refine .yes rfl ?_ | refine .no rfl ?_ | refine .exit rfl ?_)
  exact RunsE.ret1 Tryz.func7 rfl rfl ⟨rfl, H⟩

end Go.Proofs.YtflfaiakenahlaaGreatDoor
