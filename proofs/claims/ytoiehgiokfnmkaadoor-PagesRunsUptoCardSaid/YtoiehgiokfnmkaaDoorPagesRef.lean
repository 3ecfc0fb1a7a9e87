/-
  The document's store of pages: New, step, Put, Arm.
-/
import Derived.Test.YtoiehgiokfnmkaaDoorPagesActs
import Derived.Test.YtoiehgiokfnmkaaDoorVRd
namespace Go.Proofs.YtoiehgiokfnmkaaDoor.V

/-- The steps till it crashes, as the document tells them. -/
def stepsOf (s : St) : Int := if s.armed = true then (s.left : Int) else -1

structure RX where
  pa : Option Addr
  pc : Nat
  la : Option Addr
  lc : Nat

/-- The store s as the document's value: four cells. -/
def refV (s : St) (x : RX) : List Value := [.slice x.pa s.P.length x.pc, .slice x.la s.Q.length x.lc, .int .i64 (stepsOf s), .bool s.down]

/-- What lies behind that value's slices. -/
structure RefIn (G : List (Nat × Obj)) (s : St) (x : RX) : Prop where
  ok : s.Ok
  p : ∃ us : List SE, RdS G 1 (.slice x.pa s.P.length x.pc) s.P.length (us.flatMap gS) ∧ BytesIn G us s.P
  q : ∃ ql : List QE, RdS G 2 (.slice x.la s.Q.length x.lc) s.Q.length (ql.flatMap gQ) ∧ QueueIn G ql s.Q

theorem RefIn.sub {G G' : List (Nat × Obj)} {s : St} {x : RX} (h : RefIn G s x) (hs : ∀ p ∈ G, p ∈ G') : RefIn G' s x :=
  ⟨h.ok, h.p.imp fun _ h => ⟨h.1.sub hs, h.2.sub hs⟩, h.q.imp fun _ h => ⟨h.1.sub hs, h.2.sub hs⟩⟩

theorem refV_one (s : St) (x : RX) : ∀ v ∈ refV s x, v.oneCell' = true := by simp [refV, Value.oneCell']
theorem refV_len (s : St) (x : RX) : (refV s x).length = 4 := rfl

end Go.Proofs.YtoiehgiokfnmkaaDoor.V
namespace Go.Proofs.YtoiehgiokfnmkaaDoor
open Go.Proofs.YtoiehgiokfnmkaaDoor.V

abbrev RVal (s : St) (x : RX) : Value := .agg (refV s x).toArray

theorem rnew_bad [Strm] (n : Int) (hn : n < 1 ∨ 4096 < n) (w : World) (F : List (Nat × Obj)) (H : SL w F) :
    Does Tryd.prog 15 #[.int .i64 n] w fun r w' => r = .tuple #[.agg #[.slice none 0 0, .slice none 0 0, .int .i64 0, .bool false], .int .i64 1] ∧ SL w' F := by
  refine Does.intro (args := [_]) (e := [(0, _)]) Tryd.func15 rfl Tryd.ntmps15 rfl rfl ?_
  repeat (first | refine RunsE.seq ?_ | refine RunsE.skip ?_ | refine RunsE.block ?_ | refine RunsE.inBlock ?_ | refine RunsE.yes rfl ?_ | refine RunsE.no rfl ?_ | refine RunsE.exit rfl ?_)
  repeat (first | refine RunsE.seq ?_ | refine RunsE.skip ?_ | refine RunsE.block ?_ | refine RunsE.inBlock ?_ | refine RunsE.yes rfl ?_ | refine RunsE.no rfl ?_ | refine RunsE.exit rfl ?_)
  refine RunsE.region ?_
  refine OpsE.ex (Ex.alloc (zv := .agg #[.slice none 0 0, .slice none 0 0, .int .i64 0, .bool false]) H (by kernel_rfl)) rfl ?_; (try clear H); rintro _ w ⟨b2, rfl, H⟩; simp only [Value.cells] at H
  refine OpsE.ev (Ev.assign rfl) rfl ?_
  refine OpsE.nil ?_
  by_cases h1 : n < 1
  ·
    repeat (first | refine RunsE.seq ?_ | refine RunsE.skip ?_ | refine RunsE.block ?_ | refine RunsE.inBlock ?_ | refine RunsE.yes rfl ?_ | refine RunsE.no rfl ?_ | refine RunsE.exit rfl ?_)
    refine RunsE.region ?_
    refine OpsE.ev (Ev.move rfl) rfl ?_
    refine OpsE.ev (Ev.lss (r := true) rfl rfl (decide_eq_true h1)) rfl ?_
    refine OpsE.ev (Ev.move rfl) rfl ?_
    first | (refine OpsE.yes rfl rfl ?_; refine OpsE.ev (Ev.move rfl) rfl ?_) | refine OpsE.no rfl rfl rfl ?_ | refine OpsE.off rfl rfl rfl ?_
    first | (refine OpsE.yes rfl rfl ?_; refine OpsE.ev (Ev.gtr rfl rfl) rfl ?_) | refine OpsE.no rfl rfl rfl ?_ | refine OpsE.off rfl rfl rfl ?_
    refine OpsE.ev ((by first | exact Ev.pickT rfl rfl | exact Ev.pickF rfl rfl)) rfl ?_
    refine OpsE.nil ?_
    repeat (first | refine RunsE.seq ?_ | refine RunsE.skip ?_ | refine RunsE.block ?_ | refine RunsE.inBlock ?_ | refine RunsE.yes rfl ?_ | refine RunsE.no rfl ?_ | refine RunsE.exit rfl ?_)
    refine RunsE.region ?_
    refine OpsE.ev (Ev.buildSt (pl := [(0, 1), (1, 1), (2, 1), (3, 1)]) (zv := .agg #[.slice none 0 0, .slice none 0 0, .int .i64 0, .bool false]) rfl (by kernel_rfl) (by kernel_rfl) rfl) rfl ?_
    refine OpsE.exn (Ex.storeBlk (n := 4) (vs := [.slice none 0 0, .slice none 0 0, .int .i64 0, .bool false]) H rfl rfl (by kernel_rfl) rfl (by simp [Value.oneCell']) u0 rfl (Thaw.zero _ _)) ?_; (try clear H); intro _ w H
    refine OpsE.ev (Ev.assign rfl) rfl ?_
    refine OpsE.nil ?_
    repeat (first | refine RunsE.seq ?_ | refine RunsE.skip ?_ | refine RunsE.block ?_ | refine RunsE.inBlock ?_ | refine RunsE.yes rfl ?_ | refine RunsE.no rfl ?_ | refine RunsE.exit rfl ?_)
    exact RunsE.retAggTmp (m := 4) H Tryd.func15 rfl rfl rfl (by kernel_rfl) rfl m0 ⟨rfl, H.drop⟩
  ·
    repeat (first | refine RunsE.seq ?_ | refine RunsE.skip ?_ | refine RunsE.block ?_ | refine RunsE.inBlock ?_ | refine RunsE.yes rfl ?_ | refine RunsE.no rfl ?_ | refine RunsE.exit rfl ?_)
    refine RunsE.region ?_
    refine OpsE.ev (Ev.move rfl) rfl ?_
    refine OpsE.ev (Ev.lss (r := false) rfl rfl (decide_eq_false h1)) rfl ?_
    refine OpsE.ev (Ev.move rfl) rfl ?_
    first | (refine OpsE.yes rfl rfl ?_; refine OpsE.ev (Ev.move rfl) rfl ?_) | refine OpsE.no rfl rfl rfl ?_ | refine OpsE.off rfl rfl rfl ?_
    first | (refine OpsE.yes rfl rfl ?_; refine OpsE.ev (Ev.gtr (r := true) rfl rfl (decide_eq_true (by omega))) rfl ?_) | refine OpsE.no rfl rfl rfl ?_ | refine OpsE.off rfl rfl rfl ?_
    refine OpsE.ev ((by first | exact Ev.pickT rfl rfl | exact Ev.pickF rfl rfl)) rfl ?_
    refine OpsE.nil ?_
    repeat (first | refine RunsE.seq ?_ | refine RunsE.skip ?_ | refine RunsE.block ?_ | refine RunsE.inBlock ?_ | refine RunsE.yes rfl ?_ | refine RunsE.no rfl ?_ | refine RunsE.exit rfl ?_)
    refine RunsE.region ?_
    refine OpsE.ev (Ev.buildSt (pl := [(0, 1), (1, 1), (2, 1), (3, 1)]) (zv := .agg #[.slice none 0 0, .slice none 0 0, .int .i64 0, .bool false]) rfl (by kernel_rfl) (by kernel_rfl) rfl) rfl ?_
    refine OpsE.exn (Ex.storeBlk (n := 4) (vs := [.slice none 0 0, .slice none 0 0, .int .i64 0, .bool false]) H rfl rfl (by kernel_rfl) rfl (by simp [Value.oneCell']) u0 rfl (Thaw.zero _ _)) ?_; (try clear H); intro _ w H
    refine OpsE.ev (Ev.assign rfl) rfl ?_
    refine OpsE.nil ?_
    repeat (first | refine RunsE.seq ?_ | refine RunsE.skip ?_ | refine RunsE.block ?_ | refine RunsE.inBlock ?_ | refine RunsE.yes rfl ?_ | refine RunsE.no rfl ?_ | refine RunsE.exit rfl ?_)
    exact RunsE.retAggTmp (m := 4) H Tryd.func15 rfl rfl rfl (by kernel_rfl) rfl m0 ⟨rfl, H.drop⟩

theorem rnew_spec [Strm] (n : Nat) (h1 : 1 ≤ n) (h2 : n ≤ 4096) (w : World) (F G : List (Nat × Obj)) (H : SL w F) :
    Does Tryd.prog 15 #[.int .i64 (n : Int)] w fun r w' => ∃ B x, r = .tuple #[RVal (St.new n) x, .int .i64 0] ∧ RefIn (B ++ G) (St.new n) x ∧ SL w' (B ++ F) := by
  refine Does.intro (args := [_]) (e := [(0, _)]) Tryd.func15 rfl Tryd.ntmps15 rfl rfl ?_
  repeat (first | refine RunsE.seq ?_ | refine RunsE.skip ?_ | refine RunsE.block ?_ | refine RunsE.inBlock ?_ | refine RunsE.yes rfl ?_ | refine RunsE.no rfl ?_ | refine RunsE.exit rfl ?_)
  repeat (first | refine RunsE.seq ?_ | refine RunsE.skip ?_ | refine RunsE.block ?_ | refine RunsE.inBlock ?_ | refine RunsE.yes rfl ?_ | refine RunsE.no rfl ?_ | refine RunsE.exit rfl ?_)
  refine RunsE.region ?_
  refine OpsE.ex (Ex.alloc (zv := .agg #[.slice none 0 0, .slice none 0 0, .int .i64 0, .bool false]) H (by kernel_rfl)) rfl ?_; (try clear H); rintro _ w ⟨b2, rfl, H⟩; simp only [Value.cells] at H
  refine OpsE.ev (Ev.assign rfl) rfl ?_
  refine OpsE.nil ?_
  repeat (first | refine RunsE.seq ?_ | refine RunsE.skip ?_ | refine RunsE.block ?_ | refine RunsE.inBlock ?_ | refine RunsE.yes rfl ?_ | refine RunsE.no rfl ?_ | refine RunsE.exit rfl ?_)
  refine RunsE.region ?_
  refine OpsE.ev (Ev.move rfl) rfl ?_
  refine OpsE.ev (Ev.lss (r := false) rfl rfl (decide_eq_false (by omega))) rfl ?_
  refine OpsE.ev (Ev.move rfl) rfl ?_
  first | (refine OpsE.yes rfl rfl ?_; refine OpsE.ev (Ev.move rfl) rfl ?_) | refine OpsE.no rfl rfl rfl ?_ | refine OpsE.off rfl rfl rfl ?_
  first | (refine OpsE.yes rfl rfl ?_; refine OpsE.ev (Ev.gtr (r := false) rfl rfl (decide_eq_false (by omega))) rfl ?_) | refine OpsE.no rfl rfl rfl ?_ | refine OpsE.off rfl rfl rfl ?_
  refine OpsE.ev ((by first | exact Ev.pickT rfl rfl | exact Ev.pickF rfl rfl)) rfl ?_
  refine OpsE.nil ?_
  repeat (first | refine RunsE.seq ?_ | refine RunsE.skip ?_ | refine RunsE.block ?_ | refine RunsE.inBlock ?_ | refine RunsE.yes rfl ?_ | refine RunsE.no rfl ?_ | refine RunsE.exit rfl ?_)
  refine RunsE.region ?_
  refine OpsE.ev (Ev.move rfl) rfl ?_
  refine OpsE.ex (Ex.makeSl (T := 24) (zv := .slice none 0 0) (by_ := 24) H rfl rfl (by kernel_rfl) (by kernel_rfl) (by kernel_rfl) rfl (by omega) (by omega) (by omega)) rfl ?_; (try clear H); rintro _ w ⟨b12, rfl, H⟩
  refine OpsE.ev (Ev.buildSt (pl := [(0, 1), (1, 1), (2, 1), (3, 1)]) (zv := .agg #[.slice none 0 0, .slice none 0 0, .int .i64 0, .bool false]) rfl (by kernel_rfl) (by kernel_rfl) rfl) rfl ?_
  refine OpsE.exn (Ex.storeBlk (n := 4) (vs := [.slice (some ⟨b12, 0, none⟩) n n, .slice none 0 0, .int .i64 (-1), .bool false]) H rfl rfl (by kernel_rfl) rfl (by simp [Value.oneCell']) u1 rfl (Thaw.zero _ _)) ?_; (try clear H); intro _ w H
  refine OpsE.ev (Ev.assign rfl) rfl ?_
  refine OpsE.nil ?_
  repeat (first | refine RunsE.seq ?_ | refine RunsE.skip ?_ | refine RunsE.block ?_ | refine RunsE.inBlock ?_ | refine RunsE.yes rfl ?_ | refine RunsE.no rfl ?_ | refine RunsE.exit rfl ?_)
  refine RunsE.retAggTmp (m := 4) H Tryd.func15 rfl rfl rfl (by kernel_rfl) rfl m1 ⟨[(b12, .cells (List.replicate n (Value.slice none 0 0)).toArray 24 (0, 0))], ⟨some ⟨b12, 0, none⟩, n, none, 0⟩, ?_, ⟨St.new_ok h2, ⟨List.replicate n (none, 0, 0), ?_, ?_⟩, ⟨[], .nil, ⟨rfl, fun i q h => by simp at h⟩⟩⟩, H.drop1⟩
  · simp [refV, St.new, stepsOf]
  · have hl : (St.new n).P.length = n := by simp [St.new]
    rw [hl]
    have hf : (List.replicate n (none, 0, 0) : List SE).flatMap gS = List.replicate n (Value.slice none 0 0) := by
      refine (flatMap_one (fun u : SE => Value.slice u.1 u.2.1 u.2.2) _).trans ?_
      simp
    rw [hf]
    refine .blk b12 0 n n _ (by simp) (Nat.le_refl _) fun i v hv => ?_
    rw [Nat.zero_add]
    exact Rd.mk (.head _) (by rw [List.getElem?_toArray]; exact hv)
  · refine ⟨by simp [St.new], fun i u hu => ?_⟩
    have hlt : i < n := by
      rcases Nat.lt_or_ge i n with h | h
      · exact h
      · rw [List.getElem?_eq_none (by simpa using h)] at hu; cases hu
    have hu' : u = (none, 0, 0) := by simpa [hlt] using hu.symm
    subst hu'
    simp only [St.new, List.getD_eq_getElem?_getD, List.getElem?_replicate, hlt, if_true, Option.getD_some]
    exact .nil

theorem rstep_spec [Strm] (s : St) (x : RX) (ok : s.left ≤ 9223372036854775807) (w : World) (X : List (Nat × Obj)) (H : SL w X) :
    Does Tryd.prog 32 #[RVal s x] w fun r w' => r = .tuple #[RVal s.step.1 x, .int .i64 (s.step.2 : Int)] ∧ SL w' X := by
  by_cases h1 : s.armed = false
  · rw [show s.step = (s, 0) by simp [St.step, h1]]
    simp only [RVal, refV, stepsOf, h1]
    refine Does.intro (args := [_]) (e := [(0, _)]) Tryd.func32 rfl Tryd.ntmps32 rfl rfl ?_
    repeat (first | refine RunsE.seq ?_ | refine RunsE.skip ?_ | refine RunsE.block ?_ | refine RunsE.inBlock ?_ | refine RunsE.yes rfl ?_ | refine RunsE.no rfl ?_ | refine RunsE.exit rfl ?_)
    repeat (first | refine RunsE.seq ?_ | refine RunsE.skip ?_ | refine RunsE.block ?_ | refine RunsE.inBlock ?_ | refine RunsE.yes rfl ?_ | refine RunsE.no rfl ?_ | refine RunsE.exit rfl ?_)
    refine RunsE.region ?_
    refine OpsE.ex (Ex.box H rfl) rfl ?_; (try clear H); rintro _ w ⟨b1, rfl, H⟩; simp only [Value.cells] at H
    refine OpsE.ex (Ex.alloc (zv := .agg #[.slice none 0 0, .slice none 0 0, .int .i64 0, .bool false]) H (by kernel_rfl)) rfl ?_; (try clear H); rintro _ w ⟨b2, rfl, H⟩; simp only [Value.cells] at H
    refine OpsE.ev (Ev.assign rfl) rfl ?_
    refine OpsE.nil ?_
    repeat (first | refine RunsE.seq ?_ | refine RunsE.skip ?_ | refine RunsE.block ?_ | refine RunsE.inBlock ?_ | refine RunsE.yes rfl ?_ | refine RunsE.no rfl ?_ | refine RunsE.exit rfl ?_)
    refine RunsE.region ?_
    refine OpsE.ev (Ev.fieldAddr (o := 2) rfl (by kernel_rfl)) rfl ?_
    refine OpsE.ev (Ev.load H rfl (by kernel_rfl) (Rd.mk m1 rfl)) rfl ?_
    refine OpsE.ev (Ev.eql (r := false) rfl rfl rfl) rfl ?_
    refine OpsE.nil ?_
    repeat (first | refine RunsE.seq ?_ | refine RunsE.skip ?_ | refine RunsE.block ?_ | refine RunsE.inBlock ?_ | refine RunsE.yes rfl ?_ | refine RunsE.no rfl ?_ | refine RunsE.exit rfl ?_)
    refine RunsE.region ?_
    refine OpsE.ev (Ev.fieldAddr (o := 2) rfl (by kernel_rfl)) rfl ?_
    refine OpsE.ev (Ev.load H rfl (by kernel_rfl) (Rd.mk m1 rfl)) rfl ?_
    refine OpsE.ev (Ev.gtr (r := false) rfl rfl rfl) rfl ?_
    refine OpsE.nil ?_
    repeat (first | refine RunsE.seq ?_ | refine RunsE.skip ?_ | refine RunsE.block ?_ | refine RunsE.inBlock ?_ | refine RunsE.yes rfl ?_ | refine RunsE.no rfl ?_ | refine RunsE.exit rfl ?_)
    refine RunsE.region ?_
    refine OpsE.ev (Ev.loadBlk (n := 4) H rfl (by kernel_rfl) rfl m1) rfl ?_
    refine OpsE.exn (Ex.storeBlk (n := 4) H rfl rfl (by kernel_rfl) rfl (by simp [Value.oneCell']) u0 rfl (Thaw.zero _ _)) ?_; (try clear H); intro _ w H
    refine OpsE.ev (Ev.assign rfl) rfl ?_
    refine OpsE.nil ?_
    repeat (first | refine RunsE.seq ?_ | refine RunsE.skip ?_ | refine RunsE.block ?_ | refine RunsE.inBlock ?_ | refine RunsE.yes rfl ?_ | refine RunsE.no rfl ?_ | refine RunsE.exit rfl ?_)
    exact RunsE.retAggTmp (m := 4) H Tryd.func32 rfl rfl rfl (by kernel_rfl) rfl m0 ⟨rfl, H.drop.drop⟩
  have h1' : s.armed = true := by simpa using h1
  by_cases h2 : s.left = 0
  · rw [show s.step = ({ s with down := true, armed := false }, 13) by simp [St.step, h1, h2]]
    simp only [RVal, refV, stepsOf, h1', h2]
    refine Does.intro (args := [_]) (e := [(0, _)]) Tryd.func32 rfl Tryd.ntmps32 rfl rfl ?_
    repeat (first | refine RunsE.seq ?_ | refine RunsE.skip ?_ | refine RunsE.block ?_ | refine RunsE.inBlock ?_ | refine RunsE.yes rfl ?_ | refine RunsE.no rfl ?_ | refine RunsE.exit rfl ?_)
    repeat (first | refine RunsE.seq ?_ | refine RunsE.skip ?_ | refine RunsE.block ?_ | refine RunsE.inBlock ?_ | refine RunsE.yes rfl ?_ | refine RunsE.no rfl ?_ | refine RunsE.exit rfl ?_)
    refine RunsE.region ?_
    refine OpsE.ex (Ex.box H rfl) rfl ?_; (try clear H); rintro _ w ⟨b1, rfl, H⟩; simp only [Value.cells] at H
    refine OpsE.ex (Ex.alloc (zv := .agg #[.slice none 0 0, .slice none 0 0, .int .i64 0, .bool false]) H (by kernel_rfl)) rfl ?_; (try clear H); rintro _ w ⟨b2, rfl, H⟩; simp only [Value.cells] at H
    refine OpsE.ev (Ev.assign rfl) rfl ?_
    refine OpsE.nil ?_
    repeat (first | refine RunsE.seq ?_ | refine RunsE.skip ?_ | refine RunsE.block ?_ | refine RunsE.inBlock ?_ | refine RunsE.yes rfl ?_ | refine RunsE.no rfl ?_ | refine RunsE.exit rfl ?_)
    refine RunsE.region ?_
    refine OpsE.ev (Ev.fieldAddr (o := 2) rfl (by kernel_rfl)) rfl ?_
    refine OpsE.ev (Ev.load H rfl (by kernel_rfl) (Rd.mk m1 rfl)) rfl ?_
    refine OpsE.ev (Ev.eql (r := true) rfl rfl rfl) rfl ?_
    refine OpsE.nil ?_
    repeat (first | refine RunsE.seq ?_ | refine RunsE.skip ?_ | refine RunsE.block ?_ | refine RunsE.inBlock ?_ | refine RunsE.yes rfl ?_ | refine RunsE.no rfl ?_ | refine RunsE.exit rfl ?_)
    refine RunsE.region ?_
    refine OpsE.ev (Ev.fieldAddr (o := 3) rfl (by kernel_rfl)) rfl ?_
    refine OpsE.exn (Ex.store1 H rfl rfl (by kernel_rfl) rfl u1 (by simp) (Thaw.zero _ _) rfl) ?_; (try clear H); intro _ w H
    refine OpsE.ev (Ev.fieldAddr (o := 2) rfl (by kernel_rfl)) rfl ?_
    refine OpsE.exn (Ex.store1 (cs' := #[.slice x.pa s.P.length x.pc, .slice x.la s.Q.length x.lc, .int .i64 (-1), .bool true]) H rfl rfl (by kernel_rfl) rfl u1 (by simp) (Thaw.zero _ _) rfl) ?_; (try clear H); intro _ w H
    refine OpsE.nil ?_
    repeat (first | refine RunsE.seq ?_ | refine RunsE.skip ?_ | refine RunsE.block ?_ | refine RunsE.inBlock ?_ | refine RunsE.yes rfl ?_ | refine RunsE.no rfl ?_ | refine RunsE.exit rfl ?_)
    refine RunsE.region ?_
    refine OpsE.ev (Ev.loadBlk (n := 4) H rfl (by kernel_rfl) rfl m1) rfl ?_
    refine OpsE.exn (Ex.storeBlk (n := 4) H rfl rfl (by kernel_rfl) rfl (by simp [Value.oneCell']) u0 rfl (Thaw.zero _ _)) ?_; (try clear H); intro _ w H
    refine OpsE.ev (Ev.assign rfl) rfl ?_
    refine OpsE.nil ?_
    repeat (first | refine RunsE.seq ?_ | refine RunsE.skip ?_ | refine RunsE.block ?_ | refine RunsE.inBlock ?_ | refine RunsE.yes rfl ?_ | refine RunsE.no rfl ?_ | refine RunsE.exit rfl ?_)
    exact RunsE.retAggTmp (m := 4) H Tryd.func32 rfl rfl rfl (by kernel_rfl) rfl m0 ⟨rfl, H.drop.drop⟩
  · rw [show s.step = ({ s with left := s.left - 1 }, 0) by simp [St.step, h1, h2]]
    simp only [RVal, refV, stepsOf, h1']
    refine Does.intro (args := [_]) (e := [(0, _)]) Tryd.func32 rfl Tryd.ntmps32 rfl rfl ?_
    repeat (first | refine RunsE.seq ?_ | refine RunsE.skip ?_ | refine RunsE.block ?_ | refine RunsE.inBlock ?_ | refine RunsE.yes rfl ?_ | refine RunsE.no rfl ?_ | refine RunsE.exit rfl ?_)
    repeat (first | refine RunsE.seq ?_ | refine RunsE.skip ?_ | refine RunsE.block ?_ | refine RunsE.inBlock ?_ | refine RunsE.yes rfl ?_ | refine RunsE.no rfl ?_ | refine RunsE.exit rfl ?_)
    refine RunsE.region ?_
    refine OpsE.ex (Ex.box H rfl) rfl ?_; (try clear H); rintro _ w ⟨b1, rfl, H⟩; simp only [Value.cells] at H
    refine OpsE.ex (Ex.alloc (zv := .agg #[.slice none 0 0, .slice none 0 0, .int .i64 0, .bool false]) H (by kernel_rfl)) rfl ?_; (try clear H); rintro _ w ⟨b2, rfl, H⟩; simp only [Value.cells] at H
    refine OpsE.ev (Ev.assign rfl) rfl ?_
    refine OpsE.nil ?_
    repeat (first | refine RunsE.seq ?_ | refine RunsE.skip ?_ | refine RunsE.block ?_ | refine RunsE.inBlock ?_ | refine RunsE.yes rfl ?_ | refine RunsE.no rfl ?_ | refine RunsE.exit rfl ?_)
    refine RunsE.region ?_
    refine OpsE.ev (Ev.fieldAddr (o := 2) rfl (by kernel_rfl)) rfl ?_
    refine OpsE.ev (Ev.load H rfl (by kernel_rfl) (Rd.mk m1 rfl)) rfl ?_
    refine OpsE.ev (Ev.eql (r := false) rfl rfl (beq_eq_false_iff_ne.2 (by simp only [if_true]; omega))) rfl ?_
    refine OpsE.nil ?_
    repeat (first | refine RunsE.seq ?_ | refine RunsE.skip ?_ | refine RunsE.block ?_ | refine RunsE.inBlock ?_ | refine RunsE.yes rfl ?_ | refine RunsE.no rfl ?_ | refine RunsE.exit rfl ?_)
    refine RunsE.region ?_
    refine OpsE.ev (Ev.fieldAddr (o := 2) rfl (by kernel_rfl)) rfl ?_
    refine OpsE.ev (Ev.load H rfl (by kernel_rfl) (Rd.mk m1 rfl)) rfl ?_
    refine OpsE.ev (Ev.gtr (r := true) rfl rfl (decide_eq_true (by simp only [if_true]; omega))) rfl ?_
    refine OpsE.nil ?_
    repeat (first | refine RunsE.seq ?_ | refine RunsE.skip ?_ | refine RunsE.block ?_ | refine RunsE.inBlock ?_ | refine RunsE.yes rfl ?_ | refine RunsE.no rfl ?_ | refine RunsE.exit rfl ?_)
    refine RunsE.region ?_
    refine OpsE.ev (Ev.fieldAddr (o := 2) rfl (by kernel_rfl)) rfl ?_
    refine OpsE.ev (Ev.load H rfl (by kernel_rfl) (Rd.mk m1 rfl)) rfl ?_
    refine OpsE.ev (Ev.sub (c := ((s.left - 1 : Nat) : Int)) rfl rfl (by simp only [if_true]; rw [qi64 (by omega) (by omega)]; omega)) rfl ?_
    refine OpsE.ev (Ev.fieldAddr (o := 2) rfl (by kernel_rfl)) rfl ?_
    refine OpsE.exn (Ex.store1 (cs' := #[.slice x.pa s.P.length x.pc, .slice x.la s.Q.length x.lc, .int .i64 ((s.left - 1 : Nat) : Int), .bool s.down]) H rfl rfl (by kernel_rfl) rfl u1 (by simp) (Thaw.zero _ _) rfl) ?_; (try clear H); intro _ w H
    refine OpsE.nil ?_
    repeat (first | refine RunsE.seq ?_ | refine RunsE.skip ?_ | refine RunsE.block ?_ | refine RunsE.inBlock ?_ | refine RunsE.yes rfl ?_ | refine RunsE.no rfl ?_ | refine RunsE.exit rfl ?_)
    refine RunsE.region ?_
    refine OpsE.ev (Ev.loadBlk (n := 4) H rfl (by kernel_rfl) rfl m1) rfl ?_
    refine OpsE.exn (Ex.storeBlk (n := 4) H rfl rfl (by kernel_rfl) rfl (by simp [Value.oneCell']) u0 rfl (Thaw.zero _ _)) ?_; (try clear H); intro _ w H
    refine OpsE.ev (Ev.assign rfl) rfl ?_
    refine OpsE.nil ?_
    repeat (first | refine RunsE.seq ?_ | refine RunsE.skip ?_ | refine RunsE.block ?_ | refine RunsE.inBlock ?_ | refine RunsE.yes rfl ?_ | refine RunsE.no rfl ?_ | refine RunsE.exit rfl ?_)
    exact RunsE.retAggTmp (m := 4) H Tryd.func32 rfl rfl rfl (by kernel_rfl) rfl m0 ⟨rfl, H.drop.drop⟩

end Go.Proofs.YtoiehgiokfnmkaaDoor
