/-
  The statement 'OathOrder': its function, walked.
-/
import Derived.Test.YtniihnncgblocaaDoorOathAll
namespace Go.Proofs.YtniihnncgblocaaDoor.V

theorem perm_3 {B B1 A R : List (Nat × Obj)} : (B ++ (B1 ++ (A ++ R))).Perm (B1 ++ (A ++ (B ++ R))) := (perm_in B B1 _).trans ((perm_in B A R).append_left B1)

/-- All signed this sum, who is among these. -/
structure Among (L : List Sg) (h : Hash) (ws : List Int) (n : Nat) : Prop where
  sg : Signs L
  one : ∀ s ∈ L, s.2 = h
  has : ∀ z, hasZ L z h = (inZ z && ws.any fun x => decide (x = z))
  len : L.length ≤ n

theorem Among.nil (h : Hash) : Among [] h [] 0 := ⟨Signs.nil, fun s hs => (by cases hs), fun z => by simp [hasZ], Nat.le_refl _⟩

theorem Among.add {L : List Sg} {h : Hash} {ws ws' : List Int} {n : Nat} (hA : Among L h ws n) (x : Int) (hw : ∀ z, (ws'.any fun y => decide (y = z)) = ((ws.any fun y => decide (y = z)) || decide (x = z))) : Among (addZ L x h) h ws' (n + 1) := by
  refine ⟨hA.sg.add x h, fun s hs => ?_, fun z => ?_, by have := addZ_len L x h; have := hA.len; omega⟩
  · unfold addZ at hs
    split at hs
    · rcases List.mem_append.1 hs with hs | hs
      · exact hA.one s hs
      · obtain rfl := List.mem_singleton.1 hs; rfl
    · exact hA.one s hs
  · rw [hasZ_add, hA.has, hw]
    by_cases hx : x = z
    · subst hx; cases inZ x <;> simp
    · simp [hx]

theorem Among.same {L L' : List Sg} {h : Hash} {ws : List Int} {n n' : Nat} (hA : Among L h ws n) (hB : Among L' h ws n') : whoOf L h = whoOf L' h := by
  unfold whoOf
  congr 1
  funext k
  rw [hA.has, hB.has]

end Go.Proofs.YtniihnncgblocaaDoor.V
namespace Go.Proofs.YtniihnncgblocaaDoor
open Go.Proofs.YtniihnncgblocaaDoor.V

/-- Two books. -/
structure Two [Strm] (F : List (Nat × Obj)) (a b : Nat) (La Lb : List Sg) (w : World) : Prop where
  of :: ex : ∃ A B, BookH a La A ∧ BookH b Lb B ∧ SL w (A ++ (B ++ F))

set_option maxHeartbeats 4000000 in
theorem orderlaw_spec [Strm] (zs : List Int) (vz : Value) (h : Hash) (w : World) (F : List (Nat × Obj)) (hvz : ZIn F vz zs) (hE : ErrIn F) (H : SL w F) :
    Does Tryd.prog 4 #[vz, hV h.1] w fun r w' => r = .bool true ∧ SL w' F := by
  obtain ⟨az, cz, rfl, hcz⟩ := hvz.len
  obtain ⟨n, hn⟩ : ∃ n : Nat, n = min zs.length 40 := ⟨_, rfl⟩
  refine Does.intro (args := [_, _]) (e := [(0, _), (1, _)]) Tryd.func4 rfl Tryd.ntmps4 rfl rfl ?_
  repeat (first | refine RunsE.seq ?_ | refine RunsE.skip ?_ | refine RunsE.block ?_ | refine RunsE.inBlock ?_ | refine RunsE.yes rfl ?_ | refine RunsE.no rfl ?_ | refine RunsE.exit rfl ?_)
  repeat (first | refine RunsE.seq ?_ | refine RunsE.skip ?_ | refine RunsE.block ?_ | refine RunsE.inBlock ?_ | refine RunsE.yes rfl ?_ | refine RunsE.no rfl ?_ | refine RunsE.exit rfl ?_)
  refine RunsE.region ?_
  refine OpsE.ex (Ex.box H rfl) rfl ?_; (try clear H); rintro _ w ⟨b3, rfl, H⟩; simp only [Value.cells] at H
  refine OpsE.ev (Ev.assign rfl) rfl ?_
  refine OpsE.nil ?_
  repeat (first | refine RunsE.seq ?_ | refine RunsE.skip ?_ | refine RunsE.block ?_ | refine RunsE.inBlock ?_ | refine RunsE.yes rfl ?_ | refine RunsE.no rfl ?_ | refine RunsE.exit rfl ?_)
  refine RunsE.region ?_
  refine OpsE.ex (Ex.call rfl Tryd.call11 (onew_spec w _ H)) rfl ?_; (try clear H); rintro _ w ⟨a, A, rfl, hA, H⟩
  refine OpsE.ex (Ex.call rfl Tryd.call11 (onew_spec w _ H)) rfl ?_; (try clear H); rintro _ w ⟨b, B, rfl, hB, H⟩
  refine OpsE.ev (Ev.assign rfl) rfl ?_
  refine OpsE.ev (Ev.assign rfl) rfl ?_
  refine OpsE.nil ?_
  repeat (first | refine RunsE.seq ?_ | refine RunsE.skip ?_ | refine RunsE.block ?_ | refine RunsE.inBlock ?_ | refine RunsE.yes rfl ?_ | refine RunsE.no rfl ?_ | refine RunsE.exit rfl ?_)
  refine RunsE.region ?_
  refine OpsE.ev (Ev.move rfl) rfl ?_
  refine OpsE.ev (Ev.ptrNilEq (el := 58) rfl rfl (by kernel_rfl)) rfl ?_
  refine OpsE.ev (Ev.move rfl) rfl ?_
  first | (refine OpsE.yes rfl rfl ?_; refine OpsE.ev (Ev.move rfl) rfl ?_) | refine OpsE.no rfl rfl rfl ?_ | refine OpsE.off rfl rfl rfl ?_
  first | (refine OpsE.yes rfl rfl ?_; refine OpsE.ev (Ev.ptrNilEq (el := 58) rfl rfl (by kernel_rfl)) rfl ?_) | refine OpsE.no rfl rfl rfl ?_ | refine OpsE.off rfl rfl rfl ?_
  refine OpsE.ev ((by first | exact Ev.pickT rfl rfl | exact Ev.pickF rfl rfl)) rfl ?_
  refine OpsE.nil ?_
  repeat (first | refine RunsE.seq ?_ | refine RunsE.skip ?_ | refine RunsE.block ?_ | refine RunsE.inBlock ?_ | refine RunsE.yes rfl ?_ | refine RunsE.no rfl ?_ | refine RunsE.exit rfl ?_)
  repeat (first | refine RunsE.seq ?_ | refine RunsE.skip ?_ | refine RunsE.block ?_ | refine RunsE.inBlock ?_ | refine RunsE.yes rfl ?_ | refine RunsE.no rfl ?_ | refine RunsE.exit rfl ?_)
  refine RunsE.region ?_
  refine OpsE.ev (Ev.move rfl) rfl ?_
  refine OpsE.ev (Ev.lenSl (d := 3) rfl rfl (by kernel_rfl)) rfl ?_
  refine OpsE.ev (Ev.minN (c := (n : Int)) rfl rfl (by split <;> omega)) rfl ?_
  refine OpsE.ev (Ev.assign rfl) rfl ?_
  refine OpsE.nil ?_
  repeat (first | refine RunsE.seq ?_ | refine RunsE.skip ?_ | refine RunsE.block ?_ | refine RunsE.inBlock ?_ | refine RunsE.yes rfl ?_ | refine RunsE.no rfl ?_ | refine RunsE.exit rfl ?_)
  refine RunsE.region ?_
  refine OpsE.ev (Ev.assign rfl) rfl ?_
  refine OpsE.nil ?_
  have HP : Two ((b3, .cells (gH h).toArray 25 (0, 0)) :: F) a b [] [] w := .of ⟨A, B, hA, hB, H.swapL⟩
  clear H hA hB A B
  repeat refine RunsE.seq ?_
  refine RunsE.join (fun _ : Unit => [(3, .pointer (some ⟨b3, 0, none⟩)), (5, .pointer (some ⟨a, 0, none⟩)), (6, .pointer (some ⟨b, 0, none⟩))])
    (fun _ w => ∃ La Lb, Among La h (zs.take n) 40 ∧ Among Lb h (zs.take n) 80 ∧ Two ((b3, .cells (gH h).toArray 25 (0, 0)) :: F) a b La Lb w) (fun next => ?_) ?_
  · refine RunsE.block ?_
    refine RunsE.loop (fun i : Nat => [(0, .slice az zs.length cz), (3, .pointer (some ⟨b3, 0, none⟩)), (5, .pointer (some ⟨a, 0, none⟩)), (6, .pointer (some ⟨b, 0, none⟩)), (7, .int .i64 (n : Int)), (8, .int .i64 (i : Int))])
      (fun i w => i ≤ n ∧ ∃ La Lb, Among La h (zs.take i) i ∧ Among Lb h ((zs.take n).drop (n - i)) (i + i) ∧ Two ((b3, .cells (gH h).toArray 25 (0, 0)) :: F) a b La Lb w) (fun i => n - i) 0 ⟨rfl, rfl, rfl, rfl, rfl, rfl, trivial⟩
      ⟨by omega, [], [], Among.nil h, by rw [Nat.sub_zero, List.drop_eq_nil_of_le (by rw [List.length_take]; omega)]; exact Among.nil h, HP⟩ ?_
    clear HP
    rintro i w ⟨hi, La, Lb, hLa, hLb, HP⟩ nextL
    by_cases h1 : i = n
    · subst h1
      rw [Nat.sub_self, List.drop_zero] at hLb
      repeat (first | refine RunsE.seq ?_ | refine RunsE.skip ?_ | refine RunsE.block ?_ | refine RunsE.inBlock ?_ | refine RunsE.yes rfl ?_ | refine RunsE.no rfl ?_ | refine RunsE.exit rfl ?_)
      refine RunsE.region ?_
      refine OpsE.ev (Ev.move rfl) rfl ?_
      refine OpsE.ev (Ev.move rfl) rfl ?_
      refine OpsE.ev (Ev.lss (r := false) rfl rfl (decide_eq_false (by omega))) rfl ?_
      refine OpsE.nil ?_
      repeat refine RunsE.seq ?_
      refine RunsE.no rfl ?_
      refine RunsE.exit rfl ?_
      have := hLa.len
      have := hLb.len
      exact next () _ _ ⟨La, Lb, ⟨hLa.sg, hLa.one, hLa.has, by omega⟩, ⟨hLb.sg, hLb.one, hLb.has, by omega⟩, HP⟩ ⟨rfl, rfl, rfl, trivial⟩
    clear next
    obtain ⟨A, B, hA, hB, H⟩ := HP.ex
    clear HP
    have hal := hLa.len
    have hbl := hLb.len
    obtain ⟨bz, oz, rfl, hrd⟩ := ZIn.at hvz (i := i) (by omega)
    obtain ⟨bz', oz', ez, hrd'⟩ := ZIn.at hvz (i := n - 1 - i) (by omega)
    cases ez
    obtain ⟨x, hx⟩ : ∃ x, x = zs.getD i 0 := ⟨_, rfl⟩
    obtain ⟨y, hy⟩ : ∃ y, y = zs.getD (n - 1 - i) 0 := ⟨_, rfl⟩
    rw [← hx] at hrd
    rw [← hy] at hrd'
    have hxi : zs[i]? = some x := by rw [hx]; simp [List.getD_eq_getElem?_getD, show i < zs.length by omega]
    have hyi : (zs.take n)[n - 1 - i]? = some y := by rw [hy, List.getElem?_take, if_pos (by omega)]; simp [List.getD_eq_getElem?_getD, show n - 1 - i < zs.length by omega]
    have hdr : (zs.take n).drop (n - (i + 1)) = y :: (zs.take n).drop (n - i) := by
      have hlt : n - (i + 1) < (zs.take n).length := by rw [List.length_take]; omega
      rw [List.drop_eq_getElem_cons hlt, show n - (i + 1) + 1 = n - i by omega]
      congr 1
      have h5 : (zs.take n)[n - (i + 1)]? = some y := by rw [show n - (i + 1) = n - 1 - i by omega]; exact hyi
      rw [List.getElem?_eq_getElem hlt] at h5
      exact Option.some.inj h5
    have hLa' : Among (addZ La x h) h (zs.take (i + 1)) (i + 1) := hLa.add x fun z => by rw [List.take_add_one, hxi, List.any_append]; simp
    have hLb1 : Among (addZ Lb y h) h ((zs.take n).drop (n - (i + 1))) (i + i + 1) := hLb.add y fun z => by rw [hdr, List.any_cons, Bool.or_comm]
    have hLb2 : Among (addZ (addZ Lb y h) y h) h ((zs.take n).drop (n - (i + 1))) (i + i + 1 + 1) := hLb1.add y fun z => by
      rw [hdr, List.any_cons]
      cases decide (y = z) <;> simp
    have hb1l := hLb1.len
    repeat (first | refine RunsE.seq ?_ | refine RunsE.skip ?_ | refine RunsE.block ?_ | refine RunsE.inBlock ?_ | refine RunsE.yes rfl ?_ | refine RunsE.no rfl ?_ | refine RunsE.exit rfl ?_)
    refine RunsE.region ?_
    refine OpsE.ev (Ev.move rfl) rfl ?_
    refine OpsE.ev (Ev.move rfl) rfl ?_
    refine OpsE.ev (Ev.lss (r := true) rfl rfl (decide_eq_true (by omega))) rfl ?_
    refine OpsE.nil ?_
    repeat (first | refine RunsE.seq ?_ | refine RunsE.skip ?_ | refine RunsE.block ?_ | refine RunsE.inBlock ?_ | refine RunsE.yes rfl ?_ | refine RunsE.no rfl ?_ | refine RunsE.exit rfl ?_)
    repeat (first | refine RunsE.seq ?_ | refine RunsE.skip ?_ | refine RunsE.block ?_ | refine RunsE.inBlock ?_ | refine RunsE.yes rfl ?_ | refine RunsE.no rfl ?_ | refine RunsE.exit rfl ?_)
    refine RunsE.drawS H [6] (by kernel_rfl) ?_; (try clear H); intro w H
    refine OpsD.take 0 rfl (by kernel_rfl) (by first | exact H | exact H.drop | exact H.drop.drop | exact H.dropL | exact H.drop.dropL | exact H.dropL.drop | exact H.dropL.dropL | exact H.dropMid) (fun w H => Ev.move rfl) rfl ?_
    refine OpsD.take 1 rfl (by kernel_rfl) (by first | exact H | exact H.drop | exact H.drop.drop | exact H.dropL | exact H.drop.dropL | exact H.dropL.drop | exact H.dropL.dropL | exact H.dropMid) (fun w H => Ev.move rfl) rfl ?_
    refine OpsD.take 2 rfl (by kernel_rfl) (by first | exact H | exact H.drop | exact H.drop.drop | exact H.dropL | exact H.drop.dropL | exact H.dropL.drop | exact H.dropL.dropL | exact H.dropMid) (fun w H => Ev.move rfl) rfl ?_
    refine OpsD.take 3 rfl (by kernel_rfl) (by first | exact H | exact H.drop | exact H.drop.drop | exact H.dropL | exact H.drop.dropL | exact H.dropL.drop | exact H.dropL.dropL | exact H.dropMid) (fun w H => Ev.iaSl (n := 3) (sz := 1) (m := i) (o := oz + i) rfl rfl rfl (by kernel_rfl) (by omega) (by omega)) rfl ?_
    refine OpsD.take 4 rfl (by kernel_rfl) (by first | exact H | exact H.drop | exact H.drop.drop | exact H.dropL | exact H.drop.dropL | exact H.dropL.drop | exact H.dropL.dropL | exact H.dropMid) (fun w H => Ev.load H rfl (by kernel_rfl) hrd.tail.right.right) rfl ?_
    refine OpsD.take 5 rfl (by kernel_rfl) (by first | exact H | exact H.drop | exact H.drop.drop | exact H.dropL | exact H.drop.dropL | exact H.dropL.drop | exact H.dropL.dropL | exact H.dropMid) (fun w H => Ev.loadBlk (n := 32) (vs := gH h) H rfl (by kernel_rfl) (gH_len h) (List.mem_append_right _ (List.mem_append_right _ m0))) rfl ?_
    refine OpsD.one 6 (by kernel_rfl) (StepD.exT rfl rfl (Ex.call rfl Tryd.call12 (sign_spec a La hLa.sg (by omega) x h A w _ hA H)) rfl ?_); (try clear H); rintro _ w ⟨A, rfl, hA, H⟩; replace H := H.swapL
    refine OpsD.done (by kernel_rfl) ?_
    repeat (first | refine RunsE.seq ?_ | refine RunsE.skip ?_ | refine RunsE.block ?_ | refine RunsE.inBlock ?_ | refine RunsE.yes rfl ?_ | refine RunsE.no rfl ?_ | refine RunsE.exit rfl ?_)
    refine RunsE.drawS H [9] (by kernel_rfl) ?_; (try clear H); intro w H
    refine OpsD.take 0 rfl (by kernel_rfl) (by first | exact H | exact H.drop | exact H.drop.drop | exact H.dropL | exact H.drop.dropL | exact H.dropL.drop | exact H.dropL.dropL | exact H.dropMid) (fun w H => Ev.move rfl) rfl ?_
    refine OpsD.take 1 rfl (by kernel_rfl) (by first | exact H | exact H.drop | exact H.drop.drop | exact H.dropL | exact H.drop.dropL | exact H.dropL.drop | exact H.dropL.dropL | exact H.dropMid) (fun w H => Ev.move rfl) rfl ?_
    refine OpsD.take 2 rfl (by kernel_rfl) (by first | exact H | exact H.drop | exact H.drop.drop | exact H.dropL | exact H.drop.dropL | exact H.dropL.drop | exact H.dropL.dropL | exact H.dropMid) (fun w H => Ev.move rfl) rfl ?_
    refine OpsD.take 3 rfl (by kernel_rfl) (by first | exact H | exact H.drop | exact H.drop.drop | exact H.dropL | exact H.drop.dropL | exact H.dropL.drop | exact H.dropL.dropL | exact H.dropMid) (fun w H => Ev.sub (c := ((n - 1 : Nat) : Int)) rfl rfl (by (try simp only); rw [qi64 (by omega) (by omega)]; omega)) rfl ?_
    refine OpsD.take 4 rfl (by kernel_rfl) (by first | exact H | exact H.drop | exact H.drop.drop | exact H.dropL | exact H.drop.dropL | exact H.dropL.drop | exact H.dropL.dropL | exact H.dropMid) (fun w H => Ev.move rfl) rfl ?_
    refine OpsD.take 5 rfl (by kernel_rfl) (by first | exact H | exact H.drop | exact H.drop.drop | exact H.dropL | exact H.drop.dropL | exact H.dropL.drop | exact H.dropL.dropL | exact H.dropMid) (fun w H => Ev.sub (c := ((n - 1 - i : Nat) : Int)) rfl rfl (by (try simp only); rw [qi64 (by omega) (by omega)]; omega)) rfl ?_
    refine OpsD.take 6 rfl (by kernel_rfl) (by first | exact H | exact H.drop | exact H.drop.drop | exact H.dropL | exact H.drop.dropL | exact H.dropL.drop | exact H.dropL.dropL | exact H.dropMid) (fun w H => Ev.iaSl (n := 3) (sz := 1) (m := n - 1 - i) (o := oz + (n - 1 - i)) rfl rfl rfl (by kernel_rfl) (by omega) (by omega)) rfl ?_
    refine OpsD.take 7 rfl (by kernel_rfl) (by first | exact H | exact H.drop | exact H.drop.drop | exact H.dropL | exact H.drop.dropL | exact H.dropL.drop | exact H.dropL.dropL | exact H.dropMid) (fun w H => Ev.load H rfl (by kernel_rfl) hrd'.tail.right.right) rfl ?_
    refine OpsD.take 8 rfl (by kernel_rfl) (by first | exact H | exact H.drop | exact H.drop.drop | exact H.dropL | exact H.drop.dropL | exact H.dropL.drop | exact H.dropL.dropL | exact H.dropMid) (fun w H => Ev.loadBlk (n := 32) (vs := gH h) H rfl (by kernel_rfl) (gH_len h) (List.mem_append_right _ (List.mem_append_right _ m0))) rfl ?_
    refine OpsD.one 9 (by kernel_rfl) (StepD.exT rfl rfl (Ex.call rfl Tryd.call12 (sign_spec b Lb hLb.sg (by omega) y h B w _ hB H)) rfl ?_); (try clear H); rintro _ w ⟨B, rfl, hB, H⟩
    refine OpsD.done (by kernel_rfl) ?_
    repeat (first | refine RunsE.seq ?_ | refine RunsE.skip ?_ | refine RunsE.block ?_ | refine RunsE.inBlock ?_ | refine RunsE.yes rfl ?_ | refine RunsE.no rfl ?_ | refine RunsE.exit rfl ?_)
    refine RunsE.drawS H [9] (by kernel_rfl) ?_; (try clear H); intro w H
    refine OpsD.take 0 rfl (by kernel_rfl) (by first | exact H | exact H.drop | exact H.drop.drop | exact H.dropL | exact H.drop.dropL | exact H.dropL.drop | exact H.dropL.dropL | exact H.dropMid) (fun w H => Ev.move rfl) rfl ?_
    refine OpsD.take 1 rfl (by kernel_rfl) (by first | exact H | exact H.drop | exact H.drop.drop | exact H.dropL | exact H.drop.dropL | exact H.dropL.drop | exact H.dropL.dropL | exact H.dropMid) (fun w H => Ev.move rfl) rfl ?_
    refine OpsD.take 2 rfl (by kernel_rfl) (by first | exact H | exact H.drop | exact H.drop.drop | exact H.dropL | exact H.drop.dropL | exact H.dropL.drop | exact H.dropL.dropL | exact H.dropMid) (fun w H => Ev.move rfl) rfl ?_
    refine OpsD.take 3 rfl (by kernel_rfl) (by first | exact H | exact H.drop | exact H.drop.drop | exact H.dropL | exact H.drop.dropL | exact H.dropL.drop | exact H.dropL.dropL | exact H.dropMid) (fun w H => Ev.sub (c := ((n - 1 : Nat) : Int)) rfl rfl (by (try simp only); rw [qi64 (by omega) (by omega)]; omega)) rfl ?_
    refine OpsD.take 4 rfl (by kernel_rfl) (by first | exact H | exact H.drop | exact H.drop.drop | exact H.dropL | exact H.drop.dropL | exact H.dropL.drop | exact H.dropL.dropL | exact H.dropMid) (fun w H => Ev.move rfl) rfl ?_
    refine OpsD.take 5 rfl (by kernel_rfl) (by first | exact H | exact H.drop | exact H.drop.drop | exact H.dropL | exact H.drop.dropL | exact H.dropL.drop | exact H.dropL.dropL | exact H.dropMid) (fun w H => Ev.sub (c := ((n - 1 - i : Nat) : Int)) rfl rfl (by (try simp only); rw [qi64 (by omega) (by omega)]; omega)) rfl ?_
    refine OpsD.take 6 rfl (by kernel_rfl) (by first | exact H | exact H.drop | exact H.drop.drop | exact H.dropL | exact H.drop.dropL | exact H.dropL.drop | exact H.dropL.dropL | exact H.dropMid) (fun w H => Ev.iaSl (n := 3) (sz := 1) (m := n - 1 - i) (o := oz + (n - 1 - i)) rfl rfl rfl (by kernel_rfl) (by omega) (by omega)) rfl ?_
    refine OpsD.take 7 rfl (by kernel_rfl) (by first | exact H | exact H.drop | exact H.drop.drop | exact H.dropL | exact H.drop.dropL | exact H.dropL.drop | exact H.dropL.dropL | exact H.dropMid) (fun w H => Ev.load H rfl (by kernel_rfl) hrd'.tail.right.right) rfl ?_
    refine OpsD.take 8 rfl (by kernel_rfl) (by first | exact H | exact H.drop | exact H.drop.drop | exact H.dropL | exact H.drop.dropL | exact H.dropL.drop | exact H.dropL.dropL | exact H.dropMid) (fun w H => Ev.loadBlk (n := 32) (vs := gH h) H rfl (by kernel_rfl) (gH_len h) (List.mem_append_right _ (List.mem_append_right _ m0))) rfl ?_
    refine OpsD.one 9 (by kernel_rfl) (StepD.exT rfl rfl (Ex.call rfl Tryd.call12 (sign_spec b _ hLb1.sg (by omega) y h B w _ hB H)) rfl ?_); (try clear H); rintro _ w ⟨B, rfl, hB, H⟩
    refine OpsD.done (by kernel_rfl) ?_
    repeat (first | refine RunsE.seq ?_ | refine RunsE.skip ?_ | refine RunsE.block ?_ | refine RunsE.inBlock ?_ | refine RunsE.yes rfl ?_ | refine RunsE.no rfl ?_ | refine RunsE.exit rfl ?_)
    refine RunsE.region ?_
    refine OpsE.ev (Ev.move rfl) rfl ?_
    refine OpsE.ev (Ev.add rfl rfl) rfl ?_
    refine OpsE.ev (Ev.assign rfl) rfl ?_
    refine OpsE.nil ?_
    exact nextL (i + 1) _ _ (by omega) ⟨by omega, _, _, hLa', by rw [show i + 1 + (i + 1) = i + i + 1 + 1 by omega]; exact hLb2, .of ⟨A, B, hA, hB, H.swapL⟩⟩ ⟨rfl, rfl, rfl, rfl, rfl, rfl, trivial⟩
  clear HP
  rintro _ w ⟨La, Lb, hLa, hLb, HP⟩
  obtain ⟨A, B, hA, hB, H⟩ := HP.ex
  have hw := hLa.same hLb
  have hal := hLa.len
  have hbl := hLb.len
  have hwl := whoOf_len La h
  have hla := hLa.sg.oneSum hLa.one
  have hlb := hLb.sg.oneSum hLb.one
  rw [← hw] at hlb
  repeat (first | refine RunsE.seq ?_ | refine RunsE.skip ?_ | refine RunsE.block ?_ | refine RunsE.inBlock ?_ | refine RunsE.yes rfl ?_ | refine RunsE.no rfl ?_ | refine RunsE.exit rfl ?_)
  refine RunsE.drawS H [] (by kernel_rfl) ?_; (try clear H); intro w H
  refine OpsD.take 0 rfl (by kernel_rfl) (by first | exact H | exact H.drop | exact H.drop.drop | exact H.dropL | exact H.drop.dropL | exact H.dropL.drop | exact H.dropL.dropL | exact H.dropMid) (fun w H => Ev.move rfl) rfl ?_
  refine OpsD.take 1 rfl (by kernel_rfl) (by first | exact H | exact H.drop | exact H.drop.drop | exact H.dropL | exact H.drop.dropL | exact H.dropL.drop | exact H.dropL.dropL | exact H.dropMid) (fun w H => Ev.loadBlk (n := 32) (vs := gH h) H rfl (by kernel_rfl) (gH_len h) (List.mem_append_right _ (List.mem_append_right _ m0))) rfl ?_
  refine OpsD.take 3 rfl (by kernel_rfl) (by first | exact H | exact H.drop | exact H.drop.drop | exact H.dropL | exact H.drop.dropL | exact H.dropL.drop | exact H.dropL.dropL | exact H.dropMid) (fun w H => Ev.move rfl) rfl ?_
  refine OpsD.take 4 rfl (by kernel_rfl) (by first | exact H | exact H.drop | exact H.drop.drop | exact H.dropL | exact H.drop.dropL | exact H.dropL.drop | exact H.dropL.dropL | exact H.dropMid) (fun w H => Ev.loadBlk (n := 32) (vs := gH h) H rfl (by kernel_rfl) (gH_len h) (List.mem_append_right _ (List.mem_append_right _ m0))) rfl ?_
  refine OpsD.one 2 (by kernel_rfl) (StepD.ex rfl (Ex.call rfl Tryd.call14 (who_spec a La h A w _ hA H)) rfl ?_); (try clear H); rintro u w ⟨B1, hs1, H⟩; refine ⟨(by first | exact H | exact H.drop | exact H.drop.drop | exact H.dropL | exact H.drop.dropL | exact H.dropL.drop | exact H.dropL.dropL | exact H.dropMid), ?_⟩
  refine OpsD.one 5 (by kernel_rfl) (StepD.ex rfl (Ex.call rfl Tryd.call14 (who_spec b Lb h B w _ hB (H.perm perm_3))) rfl ?_); (try clear H); rintro v w ⟨B2, hs2, H⟩; rw [← hw] at hs2; replace H : SL w (B2 ++ (B1 ++ (A ++ (B ++ ((b3, .cells (gH h).toArray 25 (0, 0)) :: F))))) := H.perm (perm_3.symm.append_left B2); refine ⟨(by first | exact H | exact H.drop | exact H.drop.drop | exact H.dropL | exact H.drop.dropL | exact H.dropL.drop | exact H.dropL.dropL | exact H.dropMid), ?_⟩
  refine OpsD.one 6 (by kernel_rfl) (StepD.ex rfl (Ex.call rfl Tryd.call13 (ints_spec _ u v (by omega) w _ ((hs1.rdS fun _ => rfl).sub fun p hp => List.mem_append_right _ hp) (hs2.rdS fun _ => rfl) H)) rfl ?_); (try clear H); rintro _ w ⟨rfl, H⟩; refine ⟨(by first | exact H | exact H.drop | exact H.drop.drop | exact H.dropL | exact H.drop.dropL | exact H.dropL.drop | exact H.dropL.dropL | exact H.dropMid), ?_⟩
  refine OpsD.take 7 rfl (by kernel_rfl) (by first | exact H | exact H.drop | exact H.drop.drop | exact H.dropL | exact H.drop.dropL | exact H.dropL.drop | exact H.dropL.dropL | exact H.dropMid) (fun w H => Ev.move rfl) rfl ?_
  first | refine OpsD.takeYes 8 rfl (by kernel_rfl) rfl rfl (by first | exact H | exact H.drop | exact H.drop.drop | exact H.dropL | exact H.drop.dropL | exact H.dropL.drop | exact H.dropL.dropL | exact H.dropMid) (fun w H => Ev.move rfl) rfl ?_ | refine OpsD.takeNo 8 rfl (by kernel_rfl) rfl rfl (by first | exact H | exact H.drop | exact H.drop.drop | exact H.dropL | exact H.drop.dropL | exact H.dropL.drop | exact H.dropL.dropL | exact H.dropMid) rfl ?_ | refine OpsD.takeOff 8 rfl (by kernel_rfl) rfl rfl (by first | exact H | exact H.drop | exact H.drop.drop | exact H.dropL | exact H.drop.dropL | exact H.dropL.drop | exact H.dropL.dropL | exact H.dropMid) rfl ?_
  first | refine OpsD.takeYes 10 rfl (by kernel_rfl) rfl rfl (by first | exact H | exact H.drop | exact H.drop.drop | exact H.dropL | exact H.drop.dropL | exact H.dropL.drop | exact H.dropL.dropL | exact H.dropMid) (fun w H => Ev.move rfl) rfl ?_ | refine OpsD.takeNo 10 rfl (by kernel_rfl) rfl rfl (by first | exact H | exact H.drop | exact H.drop.drop | exact H.dropL | exact H.drop.dropL | exact H.dropL.drop | exact H.dropL.dropL | exact H.dropMid) rfl ?_ | refine OpsD.takeOff 10 rfl (by kernel_rfl) rfl rfl (by first | exact H | exact H.drop | exact H.drop.drop | exact H.dropL | exact H.drop.dropL | exact H.dropL.drop | exact H.dropL.dropL | exact H.dropMid) rfl ?_
  first | (refine OpsD.one 9 (by kernel_rfl) (StepD.exYes rfl rfl rfl (Ex.call rfl Tryd.call15 (len_spec a La hLa.sg (by omega) A w _ hA H.dropL.dropL)) rfl ?_); (try clear H); rintro _ w ⟨rfl, H⟩; refine ⟨(by first | exact H | exact H.drop | exact H.drop.drop | exact H.dropL | exact H.drop.dropL | exact H.dropL.drop | exact H.dropL.dropL | exact H.dropMid), ?_⟩) | refine OpsD.takeNo 9 rfl (by kernel_rfl) rfl rfl (by first | exact H | exact H.drop | exact H.drop.drop | exact H.dropL | exact H.drop.dropL | exact H.dropL.drop | exact H.dropL.dropL | exact H.dropMid) rfl ?_ | refine OpsD.takeOff 9 rfl (by kernel_rfl) rfl rfl (by first | exact H | exact H.drop | exact H.drop.drop | exact H.dropL | exact H.drop.dropL | exact H.dropL.drop | exact H.dropL.dropL | exact H.dropMid) rfl ?_
  first | (refine OpsD.one 11 (by kernel_rfl) (StepD.exYes rfl rfl rfl (Ex.call rfl Tryd.call15 (len_spec b Lb hLb.sg (by omega) B w _ hB H.swapL)) rfl ?_); (try clear H); rintro _ w ⟨rfl, H⟩; replace H := H.swapL; refine ⟨(by first | exact H | exact H.drop | exact H.drop.drop | exact H.dropL | exact H.drop.dropL | exact H.dropL.drop | exact H.dropL.dropL | exact H.dropMid), ?_⟩) | refine OpsD.takeNo 11 rfl (by kernel_rfl) rfl rfl (by first | exact H | exact H.drop | exact H.drop.drop | exact H.dropL | exact H.drop.dropL | exact H.dropL.drop | exact H.dropL.dropL | exact H.dropMid) rfl ?_ | refine OpsD.takeOff 11 rfl (by kernel_rfl) rfl rfl (by first | exact H | exact H.drop | exact H.drop.drop | exact H.dropL | exact H.drop.dropL | exact H.dropL.drop | exact H.dropL.dropL | exact H.dropMid) rfl ?_
  first | refine OpsD.takeYes 12 rfl (by kernel_rfl) rfl rfl (by first | exact H | exact H.drop | exact H.drop.drop | exact H.dropL | exact H.drop.dropL | exact H.dropL.drop | exact H.dropL.dropL | exact H.dropMid) (fun w H => Ev.eql (r := true) rfl rfl (beq_iff_eq.2 (by omega))) rfl ?_ | refine OpsD.takeNo 12 rfl (by kernel_rfl) rfl rfl (by first | exact H | exact H.drop | exact H.drop.drop | exact H.dropL | exact H.drop.dropL | exact H.dropL.drop | exact H.dropL.dropL | exact H.dropMid) rfl ?_ | refine OpsD.takeOff 12 rfl (by kernel_rfl) rfl rfl (by first | exact H | exact H.drop | exact H.drop.drop | exact H.dropL | exact H.drop.dropL | exact H.dropL.drop | exact H.dropL.dropL | exact H.dropMid) rfl ?_
  refine OpsD.take 13 rfl (by kernel_rfl) (by first | exact H | exact H.drop | exact H.drop.drop | exact H.dropL | exact H.drop.dropL | exact H.dropL.drop | exact H.dropL.dropL | exact H.dropMid) (fun w H => (by first | exact Ev.pickT rfl rfl | exact Ev.pickF rfl rfl)) rfl ?_
  refine OpsD.take 14 rfl (by kernel_rfl) (by first | exact H | exact H.drop | exact H.drop.drop | exact H.dropL | exact H.drop.dropL | exact H.dropL.drop | exact H.dropL.dropL | exact H.dropMid) (fun w H => Ev.move rfl) rfl ?_
  first | refine OpsD.takeYes 15 rfl (by kernel_rfl) rfl rfl (by first | exact H | exact H.drop | exact H.drop.drop | exact H.dropL | exact H.drop.dropL | exact H.dropL.drop | exact H.dropL.dropL | exact H.dropMid) (fun w H => Ev.move rfl) rfl ?_ | refine OpsD.takeNo 15 rfl (by kernel_rfl) rfl rfl (by first | exact H | exact H.drop | exact H.drop.drop | exact H.dropL | exact H.drop.dropL | exact H.dropL.drop | exact H.dropL.dropL | exact H.dropMid) rfl ?_ | refine OpsD.takeOff 15 rfl (by kernel_rfl) rfl rfl (by first | exact H | exact H.drop | exact H.drop.drop | exact H.dropL | exact H.drop.dropL | exact H.dropL.drop | exact H.dropL.dropL | exact H.dropMid) rfl ?_
  first | refine OpsD.takeYes 17 rfl (by kernel_rfl) rfl rfl (by first | exact H | exact H.drop | exact H.drop.drop | exact H.dropL | exact H.drop.dropL | exact H.dropL.drop | exact H.dropL.dropL | exact H.dropMid) (fun w H => Ev.move rfl) rfl ?_ | refine OpsD.takeNo 17 rfl (by kernel_rfl) rfl rfl (by first | exact H | exact H.drop | exact H.drop.drop | exact H.dropL | exact H.drop.dropL | exact H.dropL.drop | exact H.dropL.dropL | exact H.dropMid) rfl ?_ | refine OpsD.takeOff 17 rfl (by kernel_rfl) rfl rfl (by first | exact H | exact H.drop | exact H.drop.drop | exact H.dropL | exact H.drop.dropL | exact H.dropL.drop | exact H.dropL.dropL | exact H.dropMid) rfl ?_
  first | refine OpsD.takeYes 18 rfl (by kernel_rfl) rfl rfl (by first | exact H | exact H.drop | exact H.drop.drop | exact H.dropL | exact H.drop.dropL | exact H.dropL.drop | exact H.dropL.dropL | exact H.dropMid) (fun w H => Ev.loadBlk (n := 32) (vs := gH h) H rfl (by kernel_rfl) (gH_len h) (List.mem_append_right _ (List.mem_append_right _ m0))) rfl ?_ | refine OpsD.takeNo 18 rfl (by kernel_rfl) rfl rfl (by first | exact H | exact H.drop | exact H.drop.drop | exact H.dropL | exact H.drop.dropL | exact H.dropL.drop | exact H.dropL.dropL | exact H.dropMid) rfl ?_ | refine OpsD.takeOff 18 rfl (by kernel_rfl) rfl rfl (by first | exact H | exact H.drop | exact H.drop.drop | exact H.dropL | exact H.drop.dropL | exact H.dropL.drop | exact H.dropL.dropL | exact H.dropMid) rfl ?_
  first | (refine OpsD.one 16 (by kernel_rfl) (StepD.exYes rfl rfl rfl (Ex.call rfl Tryd.call15 (len_spec a La hLa.sg (by omega) A w _ hA H)) rfl ?_); (try clear H); rintro _ w ⟨rfl, H⟩; refine ⟨(by first | exact H | exact H.drop | exact H.drop.drop | exact H.dropL | exact H.drop.dropL | exact H.dropL.drop | exact H.dropL.dropL | exact H.dropMid), ?_⟩) | refine OpsD.takeNo 16 rfl (by kernel_rfl) rfl rfl (by first | exact H | exact H.drop | exact H.drop.drop | exact H.dropL | exact H.drop.dropL | exact H.dropL.drop | exact H.dropL.dropL | exact H.dropMid) rfl ?_ | refine OpsD.takeOff 16 rfl (by kernel_rfl) rfl rfl (by first | exact H | exact H.drop | exact H.drop.drop | exact H.dropL | exact H.drop.dropL | exact H.dropL.drop | exact H.dropL.dropL | exact H.dropMid) rfl ?_
  first | (refine OpsD.one 19 (by kernel_rfl) (StepD.exYes rfl rfl rfl (Ex.call rfl Tryd.call14 (who_spec a La h A w _ hA H)) rfl ?_); (try clear H); rintro u w ⟨B3, hs3, H⟩; obtain ⟨a3, c3, rfl⟩ := hs3.len; refine ⟨(by first | exact H | exact H.drop | exact H.drop.drop | exact H.dropL | exact H.drop.dropL | exact H.dropL.drop | exact H.dropL.dropL | exact H.dropMid), ?_⟩) | refine OpsD.takeNo 19 rfl (by kernel_rfl) rfl rfl (by first | exact H | exact H.drop | exact H.drop.drop | exact H.dropL | exact H.drop.dropL | exact H.dropL.drop | exact H.dropL.dropL | exact H.dropMid) rfl ?_ | refine OpsD.takeOff 19 rfl (by kernel_rfl) rfl rfl (by first | exact H | exact H.drop | exact H.drop.drop | exact H.dropL | exact H.drop.dropL | exact H.dropL.drop | exact H.dropL.dropL | exact H.dropMid) rfl ?_
  first | refine OpsD.takeYes 20 rfl (by kernel_rfl) rfl rfl (by first | exact H | exact H.drop | exact H.drop.drop | exact H.dropL | exact H.drop.dropL | exact H.dropL.drop | exact H.dropL.dropL | exact H.dropMid) (fun w H => Ev.lenSl (d := 3) rfl rfl (by kernel_rfl)) rfl ?_ | refine OpsD.takeNo 20 rfl (by kernel_rfl) rfl rfl (by first | exact H | exact H.drop | exact H.drop.drop | exact H.dropL | exact H.drop.dropL | exact H.dropL.drop | exact H.dropL.dropL | exact H.dropMid) rfl ?_ | refine OpsD.takeOff 20 rfl (by kernel_rfl) rfl rfl (by first | exact H | exact H.drop | exact H.drop.drop | exact H.dropL | exact H.drop.dropL | exact H.dropL.drop | exact H.dropL.dropL | exact H.dropMid) rfl ?_
  first | refine OpsD.takeYes 21 rfl (by kernel_rfl) rfl rfl (by first | exact H | exact H.drop | exact H.drop.drop | exact H.dropL | exact H.drop.dropL | exact H.dropL.drop | exact H.dropL.dropL | exact H.dropMid) (fun w H => Ev.eql (r := true) rfl rfl (beq_iff_eq.2 (by omega))) rfl ?_ | refine OpsD.takeNo 21 rfl (by kernel_rfl) rfl rfl (by first | exact H | exact H.drop | exact H.drop.drop | exact H.dropL | exact H.drop.dropL | exact H.dropL.drop | exact H.dropL.dropL | exact H.dropMid) rfl ?_ | refine OpsD.takeOff 21 rfl (by kernel_rfl) rfl rfl (by first | exact H | exact H.drop | exact H.drop.drop | exact H.dropL | exact H.drop.dropL | exact H.dropL.drop | exact H.dropL.dropL | exact H.dropMid) rfl ?_
  refine OpsD.take 22 rfl (by kernel_rfl) (by first | exact H | exact H.drop | exact H.drop.drop | exact H.dropL | exact H.drop.dropL | exact H.dropL.drop | exact H.dropL.dropL | exact H.dropMid) (fun w H => (by first | exact Ev.pickT rfl rfl | exact Ev.pickF rfl rfl)) rfl ?_
  refine OpsD.take 23 rfl (by kernel_rfl) (by first | exact H | exact H.drop | exact H.drop.drop | exact H.dropL | exact H.drop.dropL | exact H.dropL.drop | exact H.dropL.dropL | exact H.dropMid) (fun w H => Ev.move rfl) rfl ?_
  first | (refine OpsD.one 24 (by kernel_rfl) (StepD.exYes rfl rfl rfl (Ex.call rfl Tryd.call8 (sure_spec w _ hE.tail.right.right.right H)) rfl ?_); (try clear H); rintro _ w ⟨rfl, H⟩; refine ⟨(by first | exact H | exact H.drop | exact H.drop.drop | exact H.dropL | exact H.drop.dropL | exact H.dropL.drop | exact H.dropL.dropL | exact H.dropMid), ?_⟩) | refine OpsD.takeNo 24 rfl (by kernel_rfl) rfl rfl (by first | exact H | exact H.drop | exact H.drop.drop | exact H.dropL | exact H.drop.dropL | exact H.dropL.drop | exact H.dropL.dropL | exact H.dropMid) rfl ?_ | refine OpsD.takeOff 24 rfl (by kernel_rfl) rfl rfl (by first | exact H | exact H.drop | exact H.drop.drop | exact H.dropL | exact H.drop.dropL | exact H.dropL.drop | exact H.dropL.dropL | exact H.dropMid) rfl ?_
  refine OpsD.take 25 rfl (by kernel_rfl) (by first | exact H | exact H.drop | exact H.drop.drop | exact H.dropL | exact H.drop.dropL | exact H.dropL.drop | exact H.dropL.dropL | exact H.dropMid) (fun w H => (by first | exact Ev.pickT rfl rfl | exact Ev.pickF rfl rfl)) rfl ?_
  refine OpsD.take 26 rfl (by kernel_rfl) (by first | exact H | exact H.drop | exact H.drop.drop | exact H.dropL | exact H.drop.dropL | exact H.dropL.drop | exact H.dropL.dropL | exact H.dropMid) (fun w H => Ev.assign rfl) rfl ?_
  refine OpsD.done (by kernel_rfl) ?_
  repeat (first | refine RunsE.seq ?_ | refine RunsE.skip ?_ | refine RunsE.block ?_ | refine RunsE.inBlock ?_ | refine RunsE.yes rfl ?_ | refine RunsE.no rfl ?_ | refine RunsE.exit rfl ?_)
  exact RunsE.ret1 Tryd.func4 rfl rfl ⟨rfl, H.dropL.dropL.dropL.drop⟩

end Go.Proofs.YtniihnncgblocaaDoor
